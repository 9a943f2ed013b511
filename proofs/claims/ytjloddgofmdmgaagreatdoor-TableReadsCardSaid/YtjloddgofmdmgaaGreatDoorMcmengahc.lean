/- Texts that go together: MkC LxAF LxAG SLaw04B PlW SRef06 SParse PsA MkD MkE MkF EngZ MkG Plain19 KdA DcA SDocs SRef19 DcB DcC SSlcI SlcI DcD DcE DcF Plain19B DcG EngAC PsB PsC Plain07B Plain38 SLabel SRef38 SCut LbA LbB LbC LbD LbE DcH SLaw07 ObP ObQ ObR STexts OcTx SSame SApart Plain07C ObS0 ObT DcI LbF Plain38B Plain38C Plain38D Plain38E Plain06B Plain06C Plain06D Plain06E PsD PsE PsF SMake6 PsG PsH PsI PsJ Plain06F. -/
import Derived.Test.YtjloddgofmdmgaaGreatDoorRows
import Derived.Lib.Overlaps
import Derived.Laws.Externs
import Derived.Lib.Repeat
import Derived.Lib.Case
import Derived.Test.YtjloddgofmdmgaaGreatDoorMbbiofpfn
import Derived.Test.YtjloddgofmdmgaaGreatDoorMhijkokaf
import Derived.Test.YtjloddgofmdmgaaGreatDoorMgcppajji
import Derived.Test.YtjloddgofmdmgaaGreatDoorMnooohdea
set_option linter.defProp false
set_option linter.unusedSimpArgs false
set_option linter.unusedVariables false
set_option maxRecDepth 20000
open Go.Proofs.Tryz (prog)
namespace Go.Proofs.YtjloddgofmdmgaaGreatDoor
section
open Eng Go.RowKit
def getV (v:Value)(b:Bool):Value:=.tuple #[v,.bool b]
section
variable {w:World}{S:Nat→Prop}{w0:World}{L:List Ent}
theorem ret_ob2 {K:Ending→World→Prop}{b:Nat}{o:Ob}{vk vc x:Value}(i:Nat)(ho:OwnS S w0 w L)(hi:L[i]?=some (obE b o vk vc))(k:K (.returned (.tuple #[obV o vk vc,x])) w):RetX prog [.cell (.pointer (some ⟨b,0,none⟩)) 27,.val x] w K:=
 ret_v2 (rv_cell (ho.agg i hi aggOb)) rv_val k
theorem m_ob0 {PK:PKT}{K:VWP}:DoX prog (mBuild 27 #[]) w PK K=K (obV Vl.ob0 nilS nilS) w:=do_eq (by kernel_rfl)
end
theorem vnull_ret (w:World):Ret prog 185 #[] w (obR (ob1 0 0 0 []) nilS nilS w):=by
 refine ret_of fun K hK=>S_value_Null_ok ?_;unfold S_value_Null;refine o_oba (Own.start w) fun b w1 ho=>?_;rw[m_ob0];refine ob_put 0 rfl rfl ho rfl fun w2 ho=>?_;exact ret_ob ho (hK _ _ ⟨rfl,ho.done⟩)
theorem vint_ret (n:Int)(w:World):Ret prog 181 #[.int .i64 n] w (obR (ob1 2 n 0 []) nilS nilS w):=by
 refine ret_of fun K hK=>S_value_Int_ok ?_;unfold S_value_Int;refine o_oba (Own.start w) fun b w1 ho=>?_;have hb:∀{PK:PKT} {K:VWP},DoX prog (mBuild 27 #[(0,(.int .i64 2)),(1,.int .i64 n)]) w1 PK K=K (obV (ob1 2 n 0 []) nilS nilS) w1:=do_eq (by kernel_rfl);rw[hb];refine ob_put 0 rfl rfl ho rfl fun w2 ho=>?_;exact ret_ob ho (hK _ _ ⟨rfl,ho.done⟩)
theorem vstr_ret (s:List UInt8)(w:World):Ret prog 183 #[.string ⟨s.toArray⟩] w (obR (ob1 4 0 0 s) nilS nilS w):=by
 refine ret_of fun K hK=>S_value_String_ok ?_;unfold S_value_String;refine o_oba (Own.start w) fun b w1 ho=>?_;have hb:∀{PK:PKT} {K:VWP},DoX prog (mBuild 27 #[(0,(.int .i64 4)),(3,.string ⟨s.toArray⟩)]) w1 PK K=K (obV (ob1 4 0 0 s) nilS nilS) w1:=do_eq (by kernel_rfl);rw[hb];refine ob_put 0 rfl rfl ho rfl fun w2 ho=>?_;exact ret_ob ho (hK _ _ ⟨rfl,ho.done⟩)
theorem vname_ret (s:List UInt8)(w:World):Ret prog 184 #[.string ⟨s.toArray⟩] w (obR (ob1 5 0 0 s) nilS nilS w):=by
 refine ret_of fun K hK=>S_value_Name_ok ?_;unfold S_value_Name;refine o_oba (Own.start w) fun b w1 ho=>?_;have hb:∀{PK:PKT} {K:VWP},DoX prog (mBuild 27 #[(0,(.int .i64 5)),(3,.string ⟨s.toArray⟩)]) w1 PK K=K (obV (ob1 5 0 0 s) nilS nilS) w1:=do_eq (by kernel_rfl);rw[hb];refine ob_put 0 rfl rfl ho rfl fun w2 ho=>?_;exact ret_ob ho (hK _ _ ⟨rfl,ho.done⟩)
theorem keyed_ret (o:Ob){vk vc:Value}(hk:vk.oneCell'=true)(hc:vc.oneCell'=true)(w:World):Ret prog 119 #[obV o vk vc] w (fun v w'=>v=.bool (Vl.keyed o)∧Below w.heap.size w w'):=by
 refine ret_of fun K hK=>S_value_keyed_ok ?_;unfold S_value_keyed;refine o_obb o hk hc (Own.start w) fun b w1 ho=>?_;rw[fa_o0,ob_k ho 0 rfl];unfold Vl.keyed at hK;by_cases h7:o.k=7
 ·simp only[rs,h7,decide_true,g_un];exact hK _ _ ⟨by simp[h7],ho.done⟩
 ·simp only[rs,h7,decide_false,fa_o0,ob_k ho 0 rfl];exact hK _ _ ⟨by simp[h7],ho.done⟩
theorem vget_ret (o:Ob)(v:Value)(key:List UInt8)(M:Mem)(w:World)(hw:o.wt≤100000000000)(hM:M.has w)(hv:OV M.A M.w v o) :
  RetM prog 69 #[v,.string ⟨key.toArray⟩] M w (fun r N=>∃v',r=getV v' (Vl.get o key).isSome∧OV N.A N.w v' ((Vl.get o key).getD Vl.ob0)):=by
 obtain⟨vk,vc,cs,rfl,ha⟩:=hv.open;have hww:Ob.wts o.kids≤100000000000:=by cases o;rw[Ob.wt] at hw;simp only[Ob.kids];omega
 have hkt:Pl.tot o.keys≤100000000000:=by cases o;rw[Ob.wt] at hw;simp only[Ob.keys];omega
 have hkl:=Pl.length_tot o.keys;have hlk:=Ob.len_wts o.kids;refine retM_of hM fun K hK=>S_value_Get_ok ?_;unfold S_value_Get;refine o_obb o ha.keys.one ha.kids.one (OwnS.memS hM) fun b w1 ho=>?_;refine o_oba ho fun b4 w2 ho=>?_;rw[ob_v ho 1 rfl];refine c_below ho (R:=fun v=>v=.bool (Vl.keyed o)) (keyed_ret o ha.keys.one ha.kids.one w2) ?_;rintro _ w3 rfl ho;have no:∀{W:World},OwnS M.A w W [obE b4 ob0 nilS nilS,obE b o vk vc,.mem M]→Vl.get o key=none→DoX prog (mBuild 27 #[]) W (pk K) (fun t W=>DoX prog (mStore 27 (.pointer (some ⟨b4,0,none⟩)) t) W (pk K) fun _ W=>RetX prog [.cell (.pointer (some ⟨b4,0,none⟩)) 27,.val (.bool false)] W K):=by
  intro W ho hg;rw[m_ob0];refine ob_put 0 rfl rfl ho rfl fun w4 ho=>?_;refine ret_ob2 0 ho rfl (hK _ _ M _ 2 ho rfl M.le_refl ⟨obV Vl.ob0 nilS nilS,?_,?_⟩)
  ·rw[hg];rfl
  ·rw[hg];exact ob0_ov M
 cases hkd:Vl.keyed o with
|false=>
  simp only[rs,Bool.not_false];exact no ho (by unfold Vl.get;rw[hkd];rfl)
|true=>
  simp only[rs,Bool.not_true];rw[fa_o4,ob_keys ho 1 rfl];refine c_eq (sindex_ret vk o.keys key w3 (ha.keys.now (ho.hasM 2 rfl)) (by omega)) ?_;by_cases hi:o.keys.idxOf key < o.keys.length
  ·rw[if_pos hi];have h0:¬((o.keys.idxOf key:Int) < 0):=by omega
   simp only[rs,h0,decide_false,fa_o5,ob_kids ho 1 rfl];rw[sl_len Tryz.underlying25 (ha.kids.now (ho.hasM 2 rfl))];simp only[rs];by_cases hc:(o.kids.length:Int)≤(o.keys.idxOf key:Int)
   ·simp only[hc,decide_true,rs];refine no ho ?_;unfold Vl.get;rw[hkd,if_pos rfl,if_pos hi,List.getElem?_eq_none (by omega)]
   ·simp only[hc,decide_false,rs,fa_o5,ob_kids ho 1 rfl];have hi':o.keys.idxOf key < o.kids.length:=by omega
    have hg:Vl.get o key=some o.kids[o.keys.idxOf key]:=by
     unfold Vl.get;rw[hkd,if_pos rfl,if_pos hi,List.getElem?_eq_getElem hi']
    obtain⟨x,q,hx,hrx⟩:=kid_at ha hi';obtain⟨r1,r2⟩:=hrx w3 (ho.hasM 2 rfl);refine do_eq r1 |>.mpr (do_eq r2 |>.mpr ?_);have hkw:=kid_wt hi';refine c_mem ho 2 rfl (clone_ret _ x M w3 (by omega) (ho.hasM 2 rfl) hx) fun y N w4 hle hy ho=>?_;obtain⟨yk,yc,ycs,rfl,hya⟩:=hy.open;refine ob_put 0 hya.keys.one hya.kids.one ho rfl fun w5 ho=>?_;refine ret_ob2 0 ho rfl (hK _ _ N _ 2 ho rfl hle ⟨obV o.kids[o.keys.idxOf key] yk yc,?_,?_⟩)
    ·rw[hg];rfl
    ·rw[hg];exact hy
  ·rw[if_neg hi];have h0:((-1:Int) < 0):=by omega
   simp only[rs,h0,decide_true,g_un];refine no ho ?_;unfold Vl.get;rw[hkd,if_pos rfl,if_neg hi]
theorem rget_ret (o:Ob)(v:Value)(key:List UInt8)(M:Mem)(w:World)(hw:o.wt≤100000000000)(hM:M.has w)(hv:OV M.A M.w v o) :
  RetM prog 18 #[v,.string ⟨key.toArray⟩] M w (fun r N=>∃v',r=getV v' (Vl.get o key).isSome∧OV N.A N.w v' ((Vl.get o key).getD Vl.ob0)):=by
 obtain⟨vk,vc,cs,rfl,ha⟩:=hv.open;have hww:Ob.wts o.kids≤100000000000:=by cases o;rw[Ob.wt] at hw;simp only[Ob.kids];omega
 have hkt:Pl.tot o.keys≤100000000000:=by cases o;rw[Ob.wt] at hw;simp only[Ob.keys];omega
 have hkl:=Pl.length_tot o.keys;have hlk:=Ob.len_wts o.kids;refine retM_of hM fun K hK=>S_foliantref05_Get_ok ?_;unfold S_foliantref05_Get;refine o_obb o ha.keys.one ha.kids.one (OwnS.memS hM) fun b w1 ho=>?_;refine o_oba ho fun b4 w2 ho=>?_;have no:∀{W:World},OwnS M.A w W [obE b4 ob0 nilS nilS,obE b o vk vc,.mem M]→Vl.get o key=none→DoX prog (mBuild 27 #[]) W (pk K) (fun t W=>DoX prog (mStore 27 (.pointer (some ⟨b4,0,none⟩)) t) W (pk K) fun _ W=>RetX prog [.cell (.pointer (some ⟨b4,0,none⟩)) 27,.val (.bool false)] W K):=by
  intro W ho hg;rw[m_ob0];refine ob_put 0 rfl rfl ho rfl fun w4 ho=>?_;refine ret_ob2 0 ho rfl (hK _ _ M _ 2 ho rfl M.le_refl ⟨obV Vl.ob0 nilS nilS,?_,?_⟩)
  ·rw[hg];rfl
  ·rw[hg];exact ob0_ov M
 rw[fa_o0,ob_k ho 1 rfl];have main:Vl.keyed o=true→DoX prog (mFA 27 (.pointer (some ⟨b,0,none⟩)) 4) w2 (pk K) (fun t17 w=>
   DoX prog (mLoad 24 t17) w (pk K) fun t18 w=>
   DoX prog (mB .len #[24] 3 #[false] #[t18]) w (pk K) fun t19 w=>
   LoopX [(.bool false),(.int .i64 0)] w (fun vs1 w N1=>∀_:Sg,S_foliantref05_Get_0 (.string ⟨key.toArray⟩) (.pointer (some ⟨b,0,none⟩)) (.pointer (some ⟨b4,0,none⟩)) (vs1.getD 0 undef) t18 t19 (vs1.getD 1 undef) w N1 K)):=by
  intro hkd;rw[fa_o4,ob_keys ho 1 rfl,sl_len Tryz.underlying24 (ha.keys.now (ho.hasM 2 rfl))];refine loop (fun vs W=>∃i:Nat,vs=[.bool false,.int .i64 i]∧i≤o.keys.length∧key ∉ o.keys.take i∧OwnS M.A w W [obE b4 ob0 nilS nilS,obE b o vk vc,.mem M]) (fun vs _=>o.keys.length - n1 vs) ⟨0,rfl,by omega,by simp,ho⟩ ?_;clear ho;rintro vs w3 ⟨i,rfl,hi,hm,ho⟩ _;simp only[S_foliantref05_Get_0,gd,rs];by_cases hlt:(i:Int) < (o.keys.length:Int)
  ·have hi':i < o.keys.length:=by omega
   simp only[hlt,decide_true,i_t];obtain⟨q,hrk⟩:=key_at ha hi';obtain⟨r1,r2⟩:=hrk w3 (ho.hasM 2 rfl);refine do_eq r1 |>.mpr (do_eq r2 |>.mpr ?_);simp only[rs];by_cases he:o.keys[i]=key
   ·have hix:o.keys.idxOf key=i:=idx_at hi' hm he;simp only[he,decide_true,i_t,fa_o5,ob_kids ho 1 rfl];rw[sl_len Tryz.underlying25 (ha.kids.now (ho.hasM 2 rfl))];simp only[rs];by_cases hc:(o.kids.length:Int)≤(i:Int)
    ·simp only[hc,decide_true,i_t];refine no ho ?_;unfold Vl.get;rw[hkd,if_pos rfl,hix,if_pos hi',List.getElem?_eq_none (by omega)]
    ·simp only[hc,decide_false,i_f,fa_o5,ob_kids ho 1 rfl];have hc':i < o.kids.length:=by omega
     have hg:Vl.get o key=some o.kids[i]:=by
      unfold Vl.get;rw[hkd,if_pos rfl,hix,if_pos hi',List.getElem?_eq_getElem hc']
     obtain⟨x,q,hx,hrx⟩:=kid_at ha hc';obtain⟨r1,r2⟩:=hrx w3 (ho.hasM 2 rfl);refine do_eq r1 |>.mpr (do_eq r2 |>.mpr ?_);obtain⟨yk,yc,ycs,rfl,hya⟩:=hx.open;refine ob_put 0 hya.keys.one hya.kids.one ho rfl fun w5 ho=>?_;refine ret_ob2 0 ho rfl (hK _ _ M _ 2 ho rfl M.le_refl ⟨obV o.kids[i] yk yc,?_,?_⟩)
     ·rw[hg];rfl
     ·rw[hg];exact hx
   ·simp only[he,decide_false,i_f];rw[wrap64_id (by omega) (by omega)];refine nextX ⟨i+1,rfl,by omega,?_,ho⟩ (by simp[n1,RowKit.intOf];omega);rw[List.take_add_one,List.getElem?_eq_getElem hi'];simp only[Option.toList,List.mem_append,List.mem_singleton,not_or];exact⟨hm,fun e=>he e.symm⟩
  ·simp only[hlt,decide_false,i_f];refine no ho ?_;rw[List.take_of_length_le (by omega)] at hm;unfold Vl.get;rw[hkd,if_pos rfl,if_neg (by rw[List.idxOf_lt_length_iff];exact hm)]
 by_cases h7:o.k=7
 ·simp only[rs,h7,ne_eq,not_true,decide_false,g_un];exact main (by simp[Vl.keyed,h7])
 ·simp only[rs,h7,ne_eq,not_false_eq_true,decide_true,fa_o0,ob_k ho 1 rfl];by_cases h9:o.k=9
  ·simp only[h9,not_true,decide_false,rs];exact main (by simp[Vl.keyed,h9])
  ·simp only[h9,not_false_eq_true,decide_true,rs];exact no ho (by simp[Vl.get,Vl.keyed,h7,h9])
end
end Go.Proofs.YtjloddgofmdmgaaGreatDoor



namespace Go.Proofs.YtjloddgofmdmgaaGreatDoor
section
open Eng Go.RowKit
section
variable {P:Program}{w w0:World}{L:List Ent}{PK:PKT}{K:VWP}
end
theorem fa_t3 {b:Nat}{w:World}{PK:PKT}{K:VWP}:DoX prog (mFA 90 (.pointer (some ⟨b,0,none⟩)) 3) w PK K=K (.pointer (some ⟨b,3,none⟩)) w:=f_addr (show fOff prog 90 3=some 3 by kernel_rfl)
theorem fa_t4' {b:Nat}{w:World}{PK:PKT}{K:VWP}:DoX prog (mFA 90 (.pointer (some ⟨b,0,none⟩)) 4) w PK K=K (.pointer (some ⟨b,4,none⟩)) w:=f_addr (show fOff prog 90 4=some 4 by kernel_rfl)
end
section
open Eng
def S_foliantref06_begins (t0:Value)(w:World)(K:Ending→World→Prop):Prop:=
 DoX prog (mBox 90 t0) w (pk K) fun t1 w=>
 DoX prog (mFA 90 t1 0) w (pk K) fun t3 w=>
 DoX prog (mLoad 3 t3) w (pk K) fun t4 w=>
 DoX prog (mEq .eql 3 (.tmp 4) (.const (.int .i64 6)) t4 (.int .i64 6)) w (pk K) fun t5 w=>
 IfX t5 (DoX prog (mFA 90 t1 4) w (pk K) fun t6 w=>
 DoX prog (mLoad 9 t6) w (pk K) fun t7 w=>
 DoX prog (mEq .eql 9 (.tmp 7) (.const (.string ⟨#[91]⟩)) t7 (.string ⟨#[91]⟩)) w (pk K) fun t8 w=>
 GDo t8 false (fun E=>DoX prog (mFA 90 t1 4) w (pk K) E) w fun t10 w=>
 GDo t8 false (fun E=>DoX prog (mLoad 9 t10) w (pk K) E) w fun t11 w=>
 GDo t8 false (fun E=>DoX prog (mEq .eql 9 (.tmp 11) (.const (.string ⟨#[60,60]⟩)) t11 (.string ⟨#[60,60]⟩)) w (pk K) E) w fun t12 w=>
 DoX prog (mPick t8 (.bool true) t12) w (pk K) fun t13 w=>
 K (.returned t13) w) (DoX prog (mFA 90 t1 0) w (pk K) fun t14 w=>
 DoX prog (mLoad 3 t14) w (pk K) fun t15 w=>
 DoX prog (mEq .neq 3 (.tmp 15) (.const (.int .i64 0)) t15 (.int .i64 0)) w (pk K) fun t16 w=>
 GDo t16 true (fun E=>DoX prog (mFA 90 t1 0) w (pk K) E) w fun t18 w=>
 GDo t16 true (fun E=>DoX prog (mLoad 3 t18) w (pk K) E) w fun t19 w=>
 GDo t16 true (fun E=>DoX prog (mEq .neq 3 (.tmp 19) (.const (.int .i64 5)) t19 (.int .i64 5)) w (pk K) E) w fun t20 w=>
 GDo t16 true (fun E=>E t20 w) w fun t21 w=>
 GDo t21 false (fun E=>DoX prog (mFA 90 t1 4) w (pk K) E) w fun t22 w=>
 GDo t21 false (fun E=>DoX prog (mLoad 9 t22) w (pk K) E) w fun t23 w=>
 GDo t21 false (fun E=>DoX prog (mEq .eql 9 (.tmp 23) (.const (.string ⟨#[116,114,117,101]⟩)) t23 (.string ⟨#[116,114,117,101]⟩)) w (pk K) E) w fun t24 w=>
 GDo t16 true (fun E=>DoX prog (mPick t21 (.bool true) t24) w (pk K) E) w fun t25 w=>
 GDo t16 true (fun E=>E t25 w) w fun t26 w=>
 GDo t26 false (fun E=>DoX prog (mFA 90 t1 4) w (pk K) E) w fun t27 w=>
 GDo t26 false (fun E=>DoX prog (mLoad 9 t27) w (pk K) E) w fun t28 w=>
 GDo t26 false (fun E=>DoX prog (mEq .eql 9 (.tmp 28) (.const (.string ⟨#[102,97,108,115,101]⟩)) t28 (.string ⟨#[102,97,108,115,101]⟩)) w (pk K) E) w fun t29 w=>
 GDo t16 true (fun E=>DoX prog (mPick t26 (.bool true) t29) w (pk K) E) w fun t30 w=>
 GDo t16 true (fun E=>E t30 w) w fun t31 w=>
 GDo t31 false (fun E=>DoX prog (mFA 90 t1 4) w (pk K) E) w fun t32 w=>
 GDo t31 false (fun E=>DoX prog (mLoad 9 t32) w (pk K) E) w fun t33 w=>
 GDo t31 false (fun E=>DoX prog (mEq .eql 9 (.tmp 33) (.const (.string ⟨#[110,117,108,108]⟩)) t33 (.string ⟨#[110,117,108,108]⟩)) w (pk K) E) w fun t34 w=>
 GDo t16 true (fun E=>DoX prog (mPick t31 (.bool true) t34) w (pk K) E) w fun t35 w=>
 DoX prog (mPick t16 t35 (.bool false)) w (pk K) fun t36 w=>
 K (.returned t36) w)
theorem S_foliantref06_begins_eq (t0:Value)(w:World)(K:Ending→World→Prop):wpX prog 37 [] [] none (bodyOf Tryz.f72) (topQ prog [.tmp 2] K) (startX [t0]) [] w=S_foliantref06_begins t0 w K:=by kernel_rfl
theorem S_foliantref06_begins_ok {t0:Value}{w:World}{K:Ending→World→Prop}(h:S_foliantref06_begins t0 w K):Calls prog 72 #[t0] w K:=
 calls_of_wpX Tryz.func72 rfl rfl rfl rfl (Eq.mpr (S_foliantref06_begins_eq t0 w K) h)
def S_foliantref06_ref (t0 t1:Value)(w:World)(K:Ending→World→Prop):Prop:=
 DoX prog (mBox 90 t1) w (pk K) fun t3 w=>
 DoX prog (mFA 90 t3 3) w (pk K) fun t10 w=>
 DoX prog (mLoad 2 t10) w (pk K) fun t11 w=>
 DoX prog (mBin .lss 2 t11 (.int .i64 1)) w (pk K) fun t12 w=>
 GDo t12 false (fun E=>DoX prog (mFA 90 t3 3) w (pk K) E) w fun t14 w=>
 GDo t12 false (fun E=>DoX prog (mLoad 2 t14) w (pk K) E) w fun t15 w=>
 GDo t12 false (fun E=>DoX prog (mBin .gtr 2 t15 (.int .i64 8191)) w (pk K) E) w fun t16 w=>
 DoX prog (mPick t12 (.bool true) t16) w (pk K) fun t17 w=>
 IfX t17 (K (.returned (.tuple #[(.int .i64 0),(.int .i64 0),(.bool false)])) w) (DoX prog (mFA 90 t3 2) w (pk K) fun t20 w=>
 DoX prog (mLoad 3 t20) w (pk K) fun t21 w=>
 CallX prog 49 #[t0,t21] w (pk K) fun t22 w=>
 DoX prog (mExt t22 0) w (pk K) fun t23 w=>
 DoX prog (mExt t22 1) w (pk K) fun t24 w=>
 DoX prog (mAlloc 90) w (pk K) fun t7 w=>
 DoX prog (mStore 90 t7 t23) w (pk K) fun _ w=>
 DoX prog (mEq .neq 30 (.tmp 25) (.const (.int .i64 0)) t24 (.int .i64 0)) w (pk K) fun t26 w=>
 GDo t26 false (fun E=>DoX prog (mFA 90 t7 0) w (pk K) E) w fun t28 w=>
 GDo t26 false (fun E=>DoX prog (mLoad 3 t28) w (pk K) E) w fun t29 w=>
 GDo t26 false (fun E=>DoX prog (mEq .neq 3 (.tmp 29) (.const (.int .i64 1)) t29 (.int .i64 1)) w (pk K) E) w fun t30 w=>
 DoX prog (mPick t26 (.bool true) t30) w (pk K) fun t31 w=>
 GDo t31 false (fun E=>DoX prog (mFA 90 t7 3) w (pk K) E) w fun t33 w=>
 GDo t31 false (fun E=>DoX prog (mLoad 2 t33) w (pk K) E) w fun t34 w=>
 GDo t31 false (fun E=>DoX prog (mBin .lss 2 t34 (.int .i64 0)) w (pk K) E) w fun t35 w=>
 DoX prog (mPick t31 (.bool true) t35) w (pk K) fun t36 w=>
 GDo t36 false (fun E=>DoX prog (mFA 90 t7 3) w (pk K) E) w fun t38 w=>
 GDo t36 false (fun E=>DoX prog (mLoad 2 t38) w (pk K) E) w fun t39 w=>
 GDo t36 false (fun E=>DoX prog (mBin .gtr 2 t39 (.int .i64 65535)) w (pk K) E) w fun t40 w=>
 DoX prog (mPick t36 (.bool true) t40) w (pk K) fun t41 w=>
 IfX t41 (K (.returned (.tuple #[(.int .i64 0),(.int .i64 0),(.bool false)])) w) (DoX prog (mFA 90 t7 2) w (pk K) fun t44 w=>
 DoX prog (mLoad 3 t44) w (pk K) fun t45 w=>
 CallX prog 49 #[t0,t45] w (pk K) fun t46 w=>
 DoX prog (mExt t46 0) w (pk K) fun t47 w=>
 DoX prog (mExt t46 1) w (pk K) fun t48 w=>
 DoX prog (mAlloc 90) w (pk K) fun t9 w=>
 DoX prog (mStore 90 t9 t47) w (pk K) fun _ w=>
 QuietX w (fun C1=>
 QDo prog C1 (mFA 90 t7 3) fun t49=>
 QDo prog C1 (mLoad 2 t49) fun t50=>
 QDo prog C1 (mFA 90 t9 2) fun t51=>
 QDo prog C1 (mLoad 3 t51) fun t52=>
 QDo prog C1 (mEq .eql 30 (.tmp 53) (.const (.int .i64 0)) t48 (.int .i64 0)) fun t54=>
 GQ t54 true (fun E=>QDo prog C1 (mFA 90 t9 0) E) fun t56=>
 GQ t54 true (fun E=>QDo prog C1 (mLoad 3 t56) E) fun t57=>
 GQ t54 true (fun E=>QDo prog C1 (mEq .eql 3 (.tmp 57) (.const (.int .i64 5)) t57 (.int .i64 5)) E) fun t58=>
 QDo prog C1 (mPick t54 t58 (.bool false)) fun t59=>
 GQ t59 true (fun E=>QDo prog C1 (mFA 90 t9 4) E) fun t61=>
 GQ t59 true (fun E=>QDo prog C1 (mLoad 9 t61) E) fun t62=>
 GQ t59 true (fun E=>QDo prog C1 (mEq .eql 9 (.tmp 62) (.const (.string ⟨#[82]⟩)) t62 (.string ⟨#[82]⟩)) E) fun t63=>
 QDo prog C1 (mPick t59 t63 (.bool false)) fun t64=>
 ∀w,C1 w →
 K (.returned (.tuple #[t50,t52,t64])) w)))
theorem S_foliantref06_ref_eq (t0 t1:Value)(w:World)(K:Ending→World→Prop):wpX prog 65 [] [] none (bodyOf Tryz.f73) (topQ prog [.tmp 4,.tmp 5,.tmp 6] K) (startX [t0,t1]) [] w=S_foliantref06_ref t0 t1 w K:=by kernel_rfl
theorem S_foliantref06_ref_ok {t0 t1:Value}{w:World}{K:Ending→World→Prop}(h:S_foliantref06_ref t0 t1 w K):Calls prog 73 #[t0,t1] w K:=
 calls_of_wpX Tryz.func73 rfl rfl rfl rfl (Eq.mpr (S_foliantref06_ref_eq t0 t1 w K) h)
def S_foliantref06_array_1 (t0 t1 t2 t6 t7 t8 t9 t11:Value)(w:World)(N1:List Value→World→Prop)(K:Ending→World→Prop):Prop:=
 DoX prog (mEq .neq 30 (.tmp 52) (.const (.int .i64 0)) t11 (.int .i64 0)) w (pk K) fun t53 w=>
 IfX t53 (DoX prog (mBuild 27 #[]) w (pk K) fun t54 w=>
 DoX prog (mStore 27 t6 t54) w (pk K) fun _ w=>
 RetX prog [.cell t6 27,.val (.int .i64 0),.val t11] w K) (DoX prog (mBin .add 3 t2 (.int .i64 1)) w (pk K) fun t60 w=>
 CallX prog 50 #[t0,t1,t60] w (pk K) fun t61 w=>
 DoX prog (mExt t61 0) w (pk K) fun t62 w=>
 DoX prog (mExt t61 1) w (pk K) fun t63 w=>
 DoX prog (mExt t61 2) w (pk K) fun t64 w=>
 DoX prog (mAlloc 27) w (pk K) fun t12 w=>
 DoX prog (mStore 27 t12 t62) w (pk K) fun _ w=>
 DoX prog (mEq .neq 30 (.tmp 65) (.const (.int .i64 0)) t64 (.int .i64 0)) w (pk K) fun t66 w=>
 IfX t66 (DoX prog (mBuild 27 #[]) w (pk K) fun t67 w=>
 DoX prog (mStore 27 t6 t67) w (pk K) fun _ w=>
 RetX prog [.cell t6 27,.val (.int .i64 0),.val t64] w K) (DoX prog (mFA 27 t9 5) w (pk K) fun t69 w=>
 DoX prog (mLoad 25 t69) w (pk K) fun t70 w=>
 DoX prog (mLoad 27 t12) w (pk K) fun t71 w=>
 DoX prog (mBuildS 25 1 #[(0,t71)]) w (pk K) fun t72 w=>
 DoX prog (mB .append #[25,25] 25 #[false,false] #[t70,t72]) w (pk K) fun t73 w=>
 DoX prog (mFA 27 t9 5) w (pk K) fun t74 w=>
 DoX prog (mStore 25 t74 t73) w (pk K) fun _ w=>
 N1 [t63,t7,t8] w))
def S_foliantref06_array_0 (t0 t1 t2 t6 t7 t8 t9:Value)(w:World)(N1:List Value→World→Prop)(K:Ending→World→Prop):Prop:=
 CallX prog 49 #[t0,t1] w (pk K) fun t18 w=>
 DoX prog (mExt t18 0) w (pk K) fun t19 w=>
 DoX prog (mExt t18 1) w (pk K) fun t20 w=>
 DoX prog (mAlloc 90) w (pk K) fun t10 w=>
 DoX prog (mStore 90 t10 t19) w (pk K) fun _ w=>
 DoX prog (mEq .eql 30 (.tmp 21) (.const (.int .i64 0)) t20 (.int .i64 0)) w (pk K) fun t22 w=>
 GDo t22 true (fun E=>DoX prog (mFA 90 t10 0) w (pk K) E) w fun t24 w=>
 GDo t22 true (fun E=>DoX prog (mLoad 3 t24) w (pk K) E) w fun t25 w=>
 GDo t22 true (fun E=>DoX prog (mEq .eql 3 (.tmp 25) (.const (.int .i64 6)) t25 (.int .i64 6)) w (pk K) E) w fun t26 w=>
 DoX prog (mPick t22 t26 (.bool false)) w (pk K) fun t27 w=>
 GDo t27 true (fun E=>DoX prog (mFA 90 t10 4) w (pk K) E) w fun t29 w=>
 GDo t27 true (fun E=>DoX prog (mLoad 9 t29) w (pk K) E) w fun t30 w=>
 GDo t27 true (fun E=>DoX prog (mEq .eql 9 (.tmp 30) (.const (.string ⟨#[93]⟩)) t30 (.string ⟨#[93]⟩)) w (pk K) E) w fun t31 w=>
 DoX prog (mPick t27 t31 (.bool false)) w (pk K) fun t32 w=>
 IfX t32 (HeldX w (fun S2 w=>
 HDo prog S2 (mLoad 27 t9) fun t33=>
 HDo prog (fun _=>True) (mFA 90 t10 2) fun t34=>
 HDo prog S2 (mLoad 3 t34) fun t35=>
 DoX prog (mStore 27 t6 t33) w (pm1 (pm1 (pm1 (pm1 (pm1 (pk K)))))) fun _ w=>
 S2 w∧(RetX prog [.cell t6 27,.val t35,.val (.int .i64 0)] w K))) (JoinX (fun J3=>
 DoX prog (mEq .eql 30 (.tmp 36) (.const (.int .i64 0)) t20 (.int .i64 0)) w (pk K) fun t37 w=>
 GDo t37 true (fun E=>DoX prog (mFA 27 t9 5) w (pk K) E) w fun t39 w=>
 GDo t37 true (fun E=>DoX prog (mLoad 25 t39) w (pk K) E) w fun t40 w=>
 GDo t37 true (fun E=>DoX prog (mB .len #[25] 3 #[false] #[t40]) w (pk K) E) w fun t41 w=>
 GDo t37 true (fun E=>DoX prog (mEq .eql 3 (.tmp 41) (.const (.int .i64 8191)) t41 (.int .i64 8191)) w (pk K) E) w fun t42 w=>
 DoX prog (mPick t37 t42 (.bool false)) w (pk K) fun t43 w=>
 GDo t43 true (fun E=>DoX prog (mLoad 90 t10) w (pk K) E) w fun t45 w=>
 GDo t43 true (fun E=>CallX prog 72 #[t45] w (pk K) E) w fun t46 w=>
 DoX prog (mPick t43 t46 (.bool false)) w (pk K) fun t47 w=>
 GDo t47 true (fun E=>E t2 w) w fun t49 w=>
 GDo t47 true (fun E=>DoX prog (mBin .lss 3 t49 (.int .i64 24)) w (pk K) E) w fun t50 w=>
 DoX prog (mPick t47 t50 (.bool false)) w (pk K) fun t51 w=>
 IfX t51 (J3 [(.int .i64 6)] w) (J3 [t20] w)) (fun vs3 w=>∀_:Sg,S_foliantref06_array_1 t0 t1 t2 t6 t7 t8 t9 (vs3.getD 0 undef) w N1 K))
def S_foliantref06_array (t0 t1 t2:Value)(w:World)(K:Ending→World→Prop):Prop:=
 DoX prog (mAlloc 27) w (pk K) fun t6 w=>
 DoX prog (mBuild 27 #[(0,(.int .i64 6))]) w (pk K) fun t14 w=>
 DoX prog (mAlloc 27) w (pk K) fun t9 w=>
 DoX prog (mStore 27 t9 t14) w (pk K) fun _ w=>
 LoopX [t1,(.int .i64 0),(.int .i64 0)] w (fun vs1 w N1=>∀_:Sg,S_foliantref06_array_0 t0 (vs1.getD 0 undef) t2 t6 (vs1.getD 1 undef) (vs1.getD 2 undef) t9 w N1 K)
theorem S_foliantref06_array_eq (t0 t1 t2:Value)(w:World)(K:Ending→World→Prop):wpX prog 76 [(7,[11])] [(2,[1,7,8])] none (bodyOf Tryz.f80) (topQ prog [.cell 6 27,.tmp 7,.tmp 8] K) (startX [t0,t1,t2]) [] w=S_foliantref06_array t0 t1 t2 w K:=by kernel_rfl
theorem S_foliantref06_array_ok {t0 t1 t2:Value}{w:World}{K:Ending→World→Prop}(h:S_foliantref06_array t0 t1 t2 w K):Calls prog 80 #[t0,t1,t2] w K:=
 calls_of_wpX Tryz.func80 rfl rfl rfl rfl (Eq.mpr (S_foliantref06_array_eq t0 t1 t2 w K) h)
def S_foliantref06_put_0 (t1 t3 t5 t6 t7:Value)(w:World)(N1:List Value→World→Prop)(K:Ending→World→Prop):Prop:=
 DoX prog (mBin .gtr 3 t7 (.int .i64 0)) w (pk K) fun t24 w=>
 GDo t24 true (fun E=>DoX prog (mFA 27 t3 4) w (pk K) E) w fun t26 w=>
 GDo t24 true (fun E=>DoX prog (mLoad 24 t26) w (pk K) E) w fun t27 w=>
 GDo t24 true (fun E=>E t7 w) w fun t28 w=>
 GDo t24 true (fun E=>DoX prog (mBin .sub 3 t28 (.int .i64 1)) w (pk K) E) w fun t29 w=>
 GDo t24 true (fun E=>DoX prog (mIA 24 t27 t29) w (pk K) E) w fun t30 w=>
 GDo t24 true (fun E=>DoX prog (mLoad 9 t30) w (pk K) E) w fun t31 w=>
 GDo t24 true (fun E=>E t1 w) w fun t32 w=>
 GDo t24 true (fun E=>DoX prog (mBin .gtr 9 t31 t32) w (pk K) E) w fun t33 w=>
 DoX prog (mPick t24 t33 (.bool false)) w (pk K) fun t34 w=>
 IfX t34 (QuietX w (fun C2=>
 QDo prog C2 (mFA 27 t3 4) fun t35=>
 QDo prog C2 (mLoad 24 t35) fun t36=>
 QDo prog C2 (mFA 27 t3 4) fun t38=>
 QDo prog C2 (mLoad 24 t38) fun t39=>
 QDo prog C2 (mBin .sub 3 t7 (.int .i64 1)) fun t41=>
 QDo prog C2 (mIA 24 t39 t41) fun t42=>
 QDo prog C2 (mLoad 9 t42) fun t43=>
 QDo prog C2 (mIA 24 t36 t7) fun t44=>
 ∀w,C2 w →
 DoX prog (mStore 9 t44 t43) w (pk K) fun _ w=>
 QuietX w (fun C3=>
 QDo prog C3 (mFA 27 t3 5) fun t45=>
 QDo prog C3 (mLoad 25 t45) fun t46=>
 QDo prog C3 (mFA 27 t3 5) fun t48=>
 QDo prog C3 (mLoad 25 t48) fun t49=>
 QDo prog C3 (mBin .sub 3 t7 (.int .i64 1)) fun t51=>
 QDo prog C3 (mIA 25 t49 t51) fun t52=>
 QDo prog C3 (mLoad 27 t52) fun t53=>
 QDo prog C3 (mIA 25 t46 t7) fun t54=>
 ∀w,C3 w →
 DoX prog (mStore 27 t54 t53) w (pk K) fun _ w=>
 DoX prog (mBin .sub 3 t7 (.int .i64 1)) w (pk K) fun t56 w=>
 N1 [t56] w))) (DoX prog (mFA 27 t3 4) w (pk K) fun t57 w=>
 DoX prog (mLoad 24 t57) w (pk K) fun t58 w=>
 DoX prog (mIA 24 t58 t7) w (pk K) fun t61 w=>
 DoX prog (mStore 9 t61 t1) w (pk K) fun _ w=>
 DoX prog (mFA 27 t3 5) w (pk K) fun t62 w=>
 DoX prog (mLoad 25 t62) w (pk K) fun t63 w=>
 DoX prog (mLoad 27 t5) w (pk K) fun t65 w=>
 DoX prog (mIA 25 t63 t7) w (pk K) fun t66 w=>
 DoX prog (mStore 27 t66 t65) w (pk K) fun _ w=>
 DoX prog (mLoad 27 t3) w (pk K) fun t67 w=>
 DoX prog (mStore 27 t6 t67) w (pk K) fun _ w=>
 RetX prog [.cell t6 27] w K)
def S_foliantref06_put (t0 t1 t2:Value)(w:World)(K:Ending→World→Prop):Prop:=
 DoX prog (mBox 27 t0) w (pk K) fun t3 w=>
 DoX prog (mBox 27 t2) w (pk K) fun t5 w=>
 DoX prog (mAlloc 27) w (pk K) fun t6 w=>
 DoX prog (mFA 27 t3 4) w (pk K) fun t8 w=>
 DoX prog (mLoad 24 t8) w (pk K) fun t9 w=>
 DoX prog (mB .len #[24] 3 #[false] #[t9]) w (pk K) fun t10 w=>
 DoX prog (mFA 27 t3 4) w (pk K) fun t11 w=>
 DoX prog (mLoad 24 t11) w (pk K) fun t12 w=>
 DoX prog (mBuildS 24 1 #[(0,t1)]) w (pk K) fun t14 w=>
 DoX prog (mB .append #[24,24] 24 #[false,false] #[t12,t14]) w (pk K) fun t15 w=>
 DoX prog (mFA 27 t3 4) w (pk K) fun t16 w=>
 DoX prog (mStore 24 t16 t15) w (pk K) fun _ w=>
 DoX prog (mFA 27 t3 5) w (pk K) fun t17 w=>
 DoX prog (mLoad 25 t17) w (pk K) fun t18 w=>
 DoX prog (mLoad 27 t5) w (pk K) fun t19 w=>
 DoX prog (mBuildS 25 1 #[(0,t19)]) w (pk K) fun t20 w=>
 DoX prog (mB .append #[25,25] 25 #[false,false] #[t18,t20]) w (pk K) fun t21 w=>
 DoX prog (mFA 27 t3 5) w (pk K) fun t22 w=>
 DoX prog (mStore 25 t22 t21) w (pk K) fun _ w=>
 LoopX [t10] w (fun vs1 w N1=>∀_:Sg,S_foliantref06_put_0 t1 t3 t5 t6 (vs1.getD 0 undef) w N1 K)
theorem S_foliantref06_put_eq (t0 t1 t2:Value)(w:World)(K:Ending→World→Prop):wpX prog 68 [] [(4,[7])] none (bodyOf Tryz.f129) (topQ prog [.cell 6 27] K) (startX [t0,t1,t2]) [] w=S_foliantref06_put t0 t1 t2 w K:=by kernel_rfl
theorem S_foliantref06_put_ok {t0 t1 t2:Value}{w:World}{K:Ending→World→Prop}(h:S_foliantref06_put t0 t1 t2 w K):Calls prog 129 #[t0,t1,t2] w K:=
 calls_of_wpX Tryz.func129 rfl rfl rfl rfl (Eq.mpr (S_foliantref06_put_eq t0 t1 t2 w K) h)
def S_foliantref06_dict_2 (t7 t8 t10 t15:Value)(w:World)(N1:List Value→World→Prop):Prop:=
 N1 [t15,t7,t8,t10] w
def S_foliantref06_dict_1 (t0 t2 t6 t7 t8 t9 t10 t11 t13:Value)(w:World)(N1 N3:List Value→World→Prop)(K:Ending→World→Prop):Prop:=
 DoX prog (mB .len #[24] 3 #[false] #[t10]) w (pk K) fun t48 w=>
 DoX prog (mBin .lss 3 t13 t48) w (pk K) fun t49 w=>
 IfX t49 (QuietX w (fun C4=>
 QDo prog C4 (mIA 24 t10 t13) fun t54=>
 QDo prog C4 (mLoad 9 t54) fun t55=>
 QDo prog C4 (mFA 90 t11 4) fun t56=>
 QDo prog C4 (mLoad 9 t56) fun t57=>
 QDo prog C4 (mEq .eql 9 (.tmp 55) (.tmp 57) t55 t57) fun t58=>
 ∀w,C4 w →
 IfX t58 (DoX prog (mBuild 27 #[]) w (pk K) fun t59 w=>
 DoX prog (mStore 27 t6 t59) w (pk K) fun _ w=>
 RetX prog [.cell t6 27,.val (.int .i64 0),.val (.int .i64 9)] w K) (DoX prog (mBin .add 3 t13 (.int .i64 1)) w (pk K) fun t51 w=>
 N3 [t7,t8,t51] w))) (DoX prog (mB .len #[24] 3 #[false] #[t10]) w (pk K) fun t61 w=>
 DoX prog (mEq .eql 3 (.tmp 61) (.const (.int .i64 8191)) t61 (.int .i64 8191)) w (pk K) fun t62 w=>
 IfX t62 (DoX prog (mBuild 27 #[]) w (pk K) fun t63 w=>
 DoX prog (mStore 27 t6 t63) w (pk K) fun _ w=>
 RetX prog [.cell t6 27,.val (.int .i64 0),.val (.int .i64 6)] w K) (DoX prog (mFA 90 t11 4) w (pk K) fun t65 w=>
 DoX prog (mLoad 9 t65) w (pk K) fun t66 w=>
 DoX prog (mBuildS 24 1 #[(0,t66)]) w (pk K) fun t67 w=>
 DoX prog (mB .append #[24,24] 24 #[false,false] #[t10,t67]) w (pk K) fun t68 w=>
 DoX prog (mFA 90 t11 2) w (pk K) fun t71 w=>
 DoX prog (mLoad 3 t71) w (pk K) fun t72 w=>
 DoX prog (mBin .add 3 t2 (.int .i64 1)) w (pk K) fun t74 w=>
 CallX prog 50 #[t0,t72,t74] w (pk K) fun t75 w=>
 DoX prog (mExt t75 0) w (pk K) fun t76 w=>
 DoX prog (mExt t75 1) w (pk K) fun t77 w=>
 DoX prog (mExt t75 2) w (pk K) fun t78 w=>
 DoX prog (mAlloc 27) w (pk K) fun t14 w=>
 DoX prog (mStore 27 t14 t76) w (pk K) fun _ w=>
 DoX prog (mEq .neq 30 (.tmp 79) (.const (.int .i64 0)) t78 (.int .i64 0)) w (pk K) fun t80 w=>
 IfX t80 (DoX prog (mBuild 27 #[]) w (pk K) fun t81 w=>
 DoX prog (mStore 27 t6 t81) w (pk K) fun _ w=>
 RetX prog [.cell t6 27,.val (.int .i64 0),.val t78] w K) (JoinX (fun J5=>
 DoX prog (mFA 27 t14 0) w (pk K) fun t83 w=>
 DoX prog (mLoad 3 t83) w (pk K) fun t84 w=>
 DoX prog (mEq .neq 3 (.tmp 84) (.const (.int .i64 0)) t84 (.int .i64 0)) w (pk K) fun t85 w=>
 IfX t85 (DoX prog (mLoad 27 t9) w (pk K) fun t86 w=>
 DoX prog (mFA 90 t11 4) w (pk K) fun t87 w=>
 DoX prog (mLoad 9 t87) w (pk K) fun t88 w=>
 DoX prog (mLoad 27 t14) w (pk K) fun t89 w=>
 CallX prog 129 #[t86,t88,t89] w (pk K) fun t90 w=>
 DoX prog (mStore 27 t9 t90) w (pk K) fun _ w=>
 J5 [] w) (J5 [] w)) (fun vs5 w=>∀_:Sg,S_foliantref06_dict_2 t7 t8 t68 t77 w N1))))
def S_foliantref06_dict_0 (t0 t1 t2 t6 t7 t8 t9 t10:Value)(w:World)(N1:List Value→World→Prop)(K:Ending→World→Prop):Prop:=
 CallX prog 49 #[t0,t1] w (pk K) fun t20 w=>
 DoX prog (mExt t20 0) w (pk K) fun t21 w=>
 DoX prog (mExt t20 1) w (pk K) fun t22 w=>
 DoX prog (mAlloc 90) w (pk K) fun t11 w=>
 DoX prog (mStore 90 t11 t21) w (pk K) fun _ w=>
 DoX prog (mEq .neq 30 (.tmp 23) (.const (.int .i64 0)) t22 (.int .i64 0)) w (pk K) fun t24 w=>
 IfX t24 (DoX prog (mBuild 27 #[]) w (pk K) fun t25 w=>
 DoX prog (mStore 27 t6 t25) w (pk K) fun _ w=>
 RetX prog [.cell t6 27,.val (.int .i64 0),.val t22] w K) (DoX prog (mFA 90 t11 0) w (pk K) fun t27 w=>
 DoX prog (mLoad 3 t27) w (pk K) fun t28 w=>
 DoX prog (mEq .eql 3 (.tmp 28) (.const (.int .i64 6)) t28 (.int .i64 6)) w (pk K) fun t29 w=>
 GDo t29 true (fun E=>DoX prog (mFA 90 t11 4) w (pk K) E) w fun t31 w=>
 GDo t29 true (fun E=>DoX prog (mLoad 9 t31) w (pk K) E) w fun t32 w=>
 GDo t29 true (fun E=>DoX prog (mEq .eql 9 (.tmp 32) (.const (.string ⟨#[62,62]⟩)) t32 (.string ⟨#[62,62]⟩)) w (pk K) E) w fun t33 w=>
 DoX prog (mPick t29 t33 (.bool false)) w (pk K) fun t34 w=>
 IfX t34 (HeldX w (fun S2 w=>
 HDo prog S2 (mLoad 27 t9) fun t35=>
 HDo prog (fun _=>True) (mFA 90 t11 2) fun t36=>
 HDo prog S2 (mLoad 3 t36) fun t37=>
 DoX prog (mStore 27 t6 t35) w (pm1 (pm1 (pm1 (pm1 (pm1 (pk K)))))) fun _ w=>
 S2 w∧(RetX prog [.cell t6 27,.val t37,.val (.int .i64 0)] w K))) (DoX prog (mFA 90 t11 0) w (pk K) fun t38 w=>
 DoX prog (mLoad 3 t38) w (pk K) fun t39 w=>
 DoX prog (mEq .eql 3 (.tmp 39) (.const (.int .i64 0)) t39 (.int .i64 0)) w (pk K) fun t40 w=>
 IfX t40 (DoX prog (mBuild 27 #[]) w (pk K) fun t41 w=>
 DoX prog (mStore 27 t6 t41) w (pk K) fun _ w=>
 RetX prog [.cell t6 27,.val (.int .i64 0),.val (.int .i64 4)] w K) (DoX prog (mFA 90 t11 0) w (pk K) fun t42 w=>
 DoX prog (mLoad 3 t42) w (pk K) fun t43 w=>
 DoX prog (mEq .neq 3 (.tmp 43) (.const (.int .i64 4)) t43 (.int .i64 4)) w (pk K) fun t44 w=>
 IfX t44 (DoX prog (mBuild 27 #[]) w (pk K) fun t45 w=>
 DoX prog (mStore 27 t6 t45) w (pk K) fun _ w=>
 RetX prog [.cell t6 27,.val (.int .i64 0),.val (.int .i64 3)] w K) (LoopX [t7,t8,(.int .i64 0)] w (fun vs3 w N3=>∀_:Sg,S_foliantref06_dict_1 t0 t2 t6 (vs3.getD 0 undef) (vs3.getD 1 undef) t9 t10 t11 (vs3.getD 2 undef) w N1 N3 K)))))
def S_foliantref06_dict (t0 t1 t2:Value)(w:World)(K:Ending→World→Prop):Prop:=
 DoX prog (mAlloc 27) w (pk K) fun t6 w=>
 DoX prog (mBuild 27 #[(0,(.int .i64 7))]) w (pk K) fun t16 w=>
 DoX prog (mAlloc 27) w (pk K) fun t9 w=>
 DoX prog (mStore 27 t9 t16) w (pk K) fun _ w=>
 LoopX [t1,(.int .i64 0),(.int .i64 0),(.slice none 0 0)] w (fun vs1 w N1=>∀_:Sg,S_foliantref06_dict_0 t0 (vs1.getD 0 undef) t2 t6 (vs1.getD 1 undef) (vs1.getD 2 undef) t9 (vs1.getD 3 undef) w N1 K)
theorem S_foliantref06_dict_eq (t0 t1 t2:Value)(w:World)(K:Ending→World→Prop):wpX prog 92 [(25,[])] [(3,[1,7,8,10]),(13,[7,8,13])] none (bodyOf Tryz.f81) (topQ prog [.cell 6 27,.tmp 7,.tmp 8] K) (startX [t0,t1,t2]) [] w=S_foliantref06_dict t0 t1 t2 w K:=by kernel_rfl
theorem S_foliantref06_dict_ok {t0 t1 t2:Value}{w:World}{K:Ending→World→Prop}(h:S_foliantref06_dict t0 t1 t2 w K):Calls prog 81 #[t0,t1,t2] w K:=
 calls_of_wpX Tryz.func81 rfl rfl rfl rfl (Eq.mpr (S_foliantref06_dict_eq t0 t1 t2 w K) h)
def S_foliantref06_object (t0 t1 t2:Value)(w:World)(K:Ending→World→Prop):Prop:=
 DoX prog (mAlloc 27) w (pk K) fun t6 w=>
 CallX prog 49 #[t0,t1] w (pk K) fun t17 w=>
 DoX prog (mExt t17 0) w (pk K) fun t18 w=>
 DoX prog (mExt t17 1) w (pk K) fun t19 w=>
 DoX prog (mAlloc 90) w (pk K) fun t9 w=>
 DoX prog (mStore 90 t9 t18) w (pk K) fun _ w=>
 DoX prog (mEq .neq 30 (.tmp 20) (.const (.int .i64 0)) t19 (.int .i64 0)) w (pk K) fun t21 w=>
 IfX t21 (DoX prog (mBuild 27 #[]) w (pk K) fun t22 w=>
 DoX prog (mStore 27 t6 t22) w (pk K) fun _ w=>
 RetX prog [.cell t6 27,.val (.int .i64 0),.val t19] w K) (DoX prog (mFA 90 t9 0) w (pk K) fun t24 w=>
 DoX prog (mLoad 3 t24) w (pk K) fun t25 w=>
 DoX prog (mEq .eql 3 (.tmp 25) (.const (.int .i64 0)) t25 (.int .i64 0)) w (pk K) fun t26 w=>
 IfX t26 (DoX prog (mBuild 27 #[]) w (pk K) fun t27 w=>
 DoX prog (mStore 27 t6 t27) w (pk K) fun _ w=>
 RetX prog [.cell t6 27,.val (.int .i64 0),.val (.int .i64 4)] w K) (DoX prog (mLoad 90 t9) w (pk K) fun t28 w=>
 CallX prog 72 #[t28] w (pk K) fun t29 w=>
 DoX prog (mUn .not t29) w (pk K) fun t30 w=>
 IfX t30 (DoX prog (mBuild 27 #[]) w (pk K) fun t31 w=>
 DoX prog (mStore 27 t6 t31) w (pk K) fun _ w=>
 RetX prog [.cell t6 27,.val (.int .i64 0),.val (.int .i64 3)] w K) (DoX prog (mBin .gtr 3 t2 (.int .i64 24)) w (pk K) fun t33 w=>
 IfX t33 (DoX prog (mBuild 27 #[]) w (pk K) fun t34 w=>
 DoX prog (mStore 27 t6 t34) w (pk K) fun _ w=>
 RetX prog [.cell t6 27,.val (.int .i64 0),.val (.int .i64 7)] w K) (DoX prog (mFA 90 t9 0) w (pk K) fun t35 w=>
 DoX prog (mLoad 3 t35) w (pk K) fun t36 w=>
 DoX prog (mEq .eql 3 (.tmp 36) (.const (.int .i64 1)) t36 (.int .i64 1)) w (pk K) fun t38 w=>
 IfX t38 (DoX prog (mLoad 90 t9) w (pk K) fun t41 w=>
 CallX prog 73 #[t0,t41] w (pk K) fun t42 w=>
 DoX prog (mExt t42 0) w (pk K) fun t43 w=>
 DoX prog (mExt t42 1) w (pk K) fun t44 w=>
 DoX prog (mExt t42 2) w (pk K) fun t45 w=>
 IfX t45 (DoX prog (mFA 90 t9 3) w (pk K) fun t47 w=>
 DoX prog (mLoad 2 t47) w (pk K) fun t48 w=>
 CallX prog 74 #[t48,t43] w (pk K) fun t50 w=>
 DoX prog (mStore 27 t6 t50) w (pk K) fun _ w=>
 RetX prog [.cell t6 27,.val t44,.val (.int .i64 0)] w K) (HeldX w (fun S1 w=>
 HDo prog (fun _=>True) (mFA 90 t9 3) fun t52=>
 HDo prog S1 (mLoad 2 t52) fun t53=>
 HDo prog (fun _=>True) (mFA 90 t9 2) fun t55=>
 HDo prog S1 (mLoad 3 t55) fun t56=>
 CallX prog 75 #[t53] w (pm1 (pm1 (pm1 (pm1 (pm1 (pm1 (pk K))))))) fun t54 w=>
 S1 w∧(DoX prog (mStore 27 t6 t54) w (pm1 (pm1 (pm1 (pm1 (pm1 (pm1 (pk K))))))) fun _ w=>
 S1 w∧(RetX prog [.cell t6 27,.val t56,.val (.int .i64 0)] w K))))) (DoX prog (mEq .eql 3 (.tmp 36) (.const (.int .i64 2)) t36 (.int .i64 2)) w (pk K) fun t58 w=>
 IfX t58 (HeldX w (fun S2 w=>
 HDo prog (fun _=>True) (mFA 90 t9 3) fun t59=>
 HDo prog S2 (mLoad 2 t59) fun t60=>
 HDo prog (fun _=>True) (mFA 90 t9 2) fun t62=>
 HDo prog S2 (mLoad 3 t62) fun t63=>
 CallX prog 76 #[t60] w (pm1 (pm1 (pm1 (pm1 (pm1 (pm1 (pk K))))))) fun t61 w=>
 S2 w∧(DoX prog (mStore 27 t6 t61) w (pm1 (pm1 (pm1 (pm1 (pm1 (pm1 (pk K))))))) fun _ w=>
 S2 w∧(RetX prog [.cell t6 27,.val t63,.val (.int .i64 0)] w K)))) (DoX prog (mEq .eql 3 (.tmp 36) (.const (.int .i64 3)) t36 (.int .i64 3)) w (pk K) fun t65 w=>
 IfX t65 (HeldX w (fun S3 w=>
 HDo prog (fun _=>True) (mFA 90 t9 4) fun t66=>
 HDo prog S3 (mLoad 9 t66) fun t67=>
 HDo prog (fun _=>True) (mFA 90 t9 2) fun t69=>
 HDo prog S3 (mLoad 3 t69) fun t70=>
 CallX prog 77 #[t67] w (pm1 (pm1 (pm1 (pm1 (pm1 (pm1 (pk K))))))) fun t68 w=>
 S3 w∧(DoX prog (mStore 27 t6 t68) w (pm1 (pm1 (pm1 (pm1 (pm1 (pm1 (pk K))))))) fun _ w=>
 S3 w∧(RetX prog [.cell t6 27,.val t70,.val (.int .i64 0)] w K)))) (DoX prog (mEq .eql 3 (.tmp 36) (.const (.int .i64 4)) t36 (.int .i64 4)) w (pk K) fun t72 w=>
 IfX t72 (HeldX w (fun S4 w=>
 HDo prog (fun _=>True) (mFA 90 t9 4) fun t73=>
 HDo prog S4 (mLoad 9 t73) fun t74=>
 HDo prog (fun _=>True) (mFA 90 t9 2) fun t76=>
 HDo prog S4 (mLoad 3 t76) fun t77=>
 CallX prog 78 #[t74] w (pm1 (pm1 (pm1 (pm1 (pm1 (pm1 (pk K))))))) fun t75 w=>
 S4 w∧(DoX prog (mStore 27 t6 t75) w (pm1 (pm1 (pm1 (pm1 (pm1 (pm1 (pk K))))))) fun _ w=>
 S4 w∧(RetX prog [.cell t6 27,.val t77,.val (.int .i64 0)] w K)))) (DoX prog (mEq .eql 3 (.tmp 36) (.const (.int .i64 5)) t36 (.int .i64 5)) w (pk K) fun t79 w=>
 IfX t79 (DoX prog (mFA 90 t9 4) w (pk K) fun t80 w=>
 DoX prog (mLoad 9 t80) w (pk K) fun t81 w=>
 DoX prog (mEq .eql 9 (.tmp 81) (.const (.string ⟨#[110,117,108,108]⟩)) t81 (.string ⟨#[110,117,108,108]⟩)) w (pk K) fun t82 w=>
 IfX t82 (HeldX w (fun S5 w=>
 HDo prog (fun _=>True) (mBuild 27 #[]) fun t83=>
 HDo prog (fun _=>True) (mFA 90 t9 2) fun t84=>
 HDo prog S5 (mLoad 3 t84) fun t85=>
 DoX prog (mStore 27 t6 t83) w (pm1 (pm1 (pm1 (pm1 (pm1 (pk K)))))) fun _ w=>
 S5 w∧(RetX prog [.cell t6 27,.val t85,.val (.int .i64 0)] w K))) (HeldX w (fun S6 w=>
 HDo prog (fun _=>True) (mFA 90 t9 4) fun t86=>
 HDo prog S6 (mLoad 9 t86) fun t87=>
 HDo prog (fun _=>True) (mEq .eql 9 (.tmp 87) (.const (.string ⟨#[116,114,117,101]⟩)) t87 (.string ⟨#[116,114,117,101]⟩)) fun t88=>
 HDo prog (fun _=>True) (mFA 90 t9 2) fun t90=>
 HDo prog S6 (mLoad 3 t90) fun t91=>
 CallX prog 79 #[t88] w (pm1 (pm1 (pm1 (pm1 (pm1 (pm1 (pm1 (pk K)))))))) fun t89 w=>
 S6 w∧(DoX prog (mStore 27 t6 t89) w (pm1 (pm1 (pm1 (pm1 (pm1 (pm1 (pm1 (pk K)))))))) fun _ w=>
 S6 w∧(RetX prog [.cell t6 27,.val t91,.val (.int .i64 0)] w K))))) (DoX prog (mFA 90 t9 4) w (pk K) fun t92 w=>
 DoX prog (mLoad 9 t92) w (pk K) fun t93 w=>
 DoX prog (mEq .eql 9 (.tmp 93) (.const (.string ⟨#[91]⟩)) t93 (.string ⟨#[91]⟩)) w (pk K) fun t94 w=>
 IfX t94 (DoX prog (mFA 90 t9 2) w (pk K) fun t96 w=>
 DoX prog (mLoad 3 t96) w (pk K) fun t97 w=>
 CallX prog 80 #[t0,t97,t2] w (pk K) fun t99 w=>
 DoX prog (mExt t99 0) w (pk K) fun t100 w=>
 DoX prog (mExt t99 1) w (pk K) fun t101 w=>
 DoX prog (mExt t99 2) w (pk K) fun t102 w=>
 DoX prog (mStore 27 t6 t100) w (pk K) fun _ w=>
 RetX prog [.cell t6 27,.val t101,.val t102] w K) (DoX prog (mFA 90 t9 2) w (pk K) fun t104 w=>
 DoX prog (mLoad 3 t104) w (pk K) fun t105 w=>
 CallX prog 81 #[t0,t105,t2] w (pk K) fun t107 w=>
 DoX prog (mExt t107 0) w (pk K) fun t108 w=>
 DoX prog (mExt t107 1) w (pk K) fun t109 w=>
 DoX prog (mExt t107 2) w (pk K) fun t110 w=>
 DoX prog (mStore 27 t6 t108) w (pk K) fun _ w=>
 RetX prog [.cell t6 27,.val t109,.val t110] w K))))))))))
theorem S_foliantref06_object_eq (t0 t1 t2:Value)(w:World)(K:Ending→World→Prop):wpX prog 111 [] [] none (bodyOf Tryz.f50) (topQ prog [.cell 6 27,.tmp 7,.tmp 8] K) (startX [t0,t1,t2]) [] w=S_foliantref06_object t0 t1 t2 w K:=by kernel_rfl
theorem S_foliantref06_object_ok {t0 t1 t2:Value}{w:World}{K:Ending→World→Prop}(h:S_foliantref06_object t0 t1 t2 w K):Calls prog 50 #[t0,t1,t2] w K:=
 calls_of_wpX Tryz.func50 rfl rfl rfl rfl (Eq.mpr (S_foliantref06_object_eq t0 t1 t2 w K) h)
def S_foliantref06_Object (t0 t1:Value)(w:World)(K:Ending→World→Prop):Prop:=
 DoX prog (mAlloc 27) w (pk K) fun t4 w=>
 DoX prog (mBin .lss 3 t1 (.int .i64 0)) w (pk K) fun t8 w=>
 GDo t8 false (fun E=>E t1 w) w fun t10 w=>
 GDo t8 false (fun E=>E t0 w) w fun t11 w=>
 GDo t8 false (fun E=>DoX prog (mB .len #[9] 3 #[false] #[t11]) w (pk K) E) w fun t12 w=>
 GDo t8 false (fun E=>DoX prog (mBin .gtr 3 t10 t12) w (pk K) E) w fun t13 w=>
 DoX prog (mPick t8 (.bool true) t13) w (pk K) fun t14 w=>
 IfX t14 (DoX prog (mBuild 27 #[]) w (pk K) fun t15 w=>
 DoX prog (mStore 27 t4 t15) w (pk K) fun _ w=>
 RetX prog [.cell t4 27,.val (.int .i64 0),.val (.int .i64 1)] w K) (CallX prog 50 #[t0,t1,(.int .i64 1)] w (pk K) fun t18 w=>
 DoX prog (mExt t18 0) w (pk K) fun t19 w=>
 DoX prog (mExt t18 1) w (pk K) fun t20 w=>
 DoX prog (mExt t18 2) w (pk K) fun t21 w=>
 DoX prog (mStore 27 t4 t19) w (pk K) fun _ w=>
 RetX prog [.cell t4 27,.val t20,.val t21] w K)
theorem S_foliantref06_Object_eq (t0 t1:Value)(w:World)(K:Ending→World→Prop):wpX prog 22 [] [] none (bodyOf Tryz.f27) (topQ prog [.cell 4 27,.tmp 5,.tmp 6] K) (startX [t0,t1]) [] w=S_foliantref06_Object t0 t1 w K:=by kernel_rfl
theorem S_foliantref06_Object_ok {t0 t1:Value}{w:World}{K:Ending→World→Prop}(h:S_foliantref06_Object t0 t1 w K):Calls prog 27 #[t0,t1] w K:=
 calls_of_wpX Tryz.func27 rfl rfl rfl rfl (Eq.mpr (S_foliantref06_Object_eq t0 t1 w K) h)
end
section
open Eng
def S_parse_reader_peek (t0 t1:Value)(w:World)(K:Ending→World→Prop):Prop:=
 DoX prog (mAlloc 90) w (pk K) fun t4 w=>
 DoX prog (mNil t0) w (pk K) fun t10 w=>
 DoX prog (mFA 118 t10 0) w (pk K) fun t11 w=>
 DoX prog (mLoad 9 t11) w (pk K) fun t12 w=>
 CallX prog 63 #[t12,t1] w (pk K) fun t14 w=>
 DoX prog (mExt t14 0) w (pk K) fun t15 w=>
 DoX prog (mExt t14 1) w (pk K) fun t16 w=>
 DoX prog (mAlloc 90) w (pk K) fun t6 w=>
 DoX prog (mStore 90 t6 t15) w (pk K) fun _ w=>
 DoX prog (mLoad 90 t6) w (pk K) fun t17 w=>
 DoX prog (mEq .eql 30 (.tmp 18) (.const (.int .i64 0)) t16 (.int .i64 0)) w (pk K) fun t19 w=>
 DoX prog (mStore 90 t4 t17) w (pk K) fun _ w=>
 RetX prog [.cell t4 90,.val t19] w K
theorem S_parse_reader_peek_eq (t0 t1:Value)(w:World)(K:Ending→World→Prop):wpX prog 20 [] [] none (bodyOf Tryz.f225) (topQ prog [.cell 4 90,.tmp 5] K) (startX [t0,t1]) [] w=S_parse_reader_peek t0 t1 w K:=by kernel_rfl
theorem S_parse_reader_peek_ok {t0 t1:Value}{w:World}{K:Ending→World→Prop}(h:S_parse_reader_peek t0 t1 w K):Calls prog 225 #[t0,t1] w K:=
 calls_of_wpX Tryz.func225 rfl rfl rfl rfl (Eq.mpr (S_parse_reader_peek_eq t0 t1 w K) h)
def S_parse_reader_next_2 (t0 t2 t3:Value)(w:World)(K:Ending→World→Prop):Prop:=
 DoX prog (mFA 90 t3 2) w (pk K) fun t26 w=>
 DoX prog (mLoad 3 t26) w (pk K) fun t27 w=>
 DoX prog (mNil t0) w (pk K) fun t28 w=>
 DoX prog (mFA 118 t28 1) w (pk K) fun t29 w=>
 DoX prog (mStore 3 t29 t27) w (pk K) fun _ w=>
 DoX prog (mLoad 90 t3) w (pk K) fun t30 w=>
 DoX prog (mStore 90 t2 t30) w (pk K) fun _ w=>
 RetX prog [.cell t2 90] w K
def S_parse_reader_next_1 (t0 t2 t3:Value)(w:World)(K:Ending→World→Prop):Prop:=
 JoinX (fun J3=>
 DoX prog (mFA 90 t3 0) w (pk K) fun t21 w=>
 DoX prog (mLoad 3 t21) w (pk K) fun t22 w=>
 DoX prog (mEq .eql 3 (.tmp 22) (.const (.int .i64 0)) t22 (.int .i64 0)) w (pk K) fun t23 w=>
 IfX t23 (DoX prog (mIface 200 (.int .i64 4)) w (pk K) fun t24 w=>
 DoX prog (mPanic t24) w (pk K) fun _ w=>
 J3 [] w) (J3 [] w)) (fun vs3 w=>∀_:Sg,S_parse_reader_next_2 t0 t2 t3 w K)
def S_parse_reader_next_0 (t0 t2 t3 t4:Value)(w:World)(K:Ending→World→Prop):Prop:=
 JoinX (fun J2=>
 DoX prog (mEq .neq 30 (.tmp 17) (.const (.int .i64 0)) t4 (.int .i64 0)) w (pk K) fun t18 w=>
 IfX t18 (DoX prog (mIface 200 t4) w (pk K) fun t20 w=>
 DoX prog (mPanic t20) w (pk K) fun _ w=>
 J2 [] w) (J2 [] w)) (fun vs2 w=>∀_:Sg,S_parse_reader_next_1 t0 t2 t3 w K)
def S_parse_reader_next (t0:Value)(w:World)(K:Ending→World→Prop):Prop:=
 DoX prog (mAlloc 90) w (pk K) fun t2 w=>
 HeldX w (fun S1 w=>
 HDo prog (fun _=>True) (mNil t0) fun t7=>
 HDo prog (fun _=>True) (mFA 118 t7 0) fun t8=>
 HDo prog S1 (mLoad 9 t8) fun t9=>
 HDo prog (fun _=>True) (mNil t0) fun t11=>
 HDo prog (fun _=>True) (mFA 118 t11 1) fun t12=>
 HDo prog S1 (mLoad 3 t12) fun t13=>
 (CallX prog 63 #[t9,t13] w (pm1 (pm1 (pm1 (pm1 (pm1 (pm1 (pm1 (pm1 (pm1 (pm1 (pm1 (pm1 (pk K))))))))))))) fun t14 w=>
 (HDo prog (fun _=>True) (mExt t14 0) fun t15=>
 HDo prog (fun _=>True) (mExt t14 1) fun t16=>
 DoX prog (mAlloc 90) w (pm1 (pm1 (pm1 (pm1 (pm1 (pm1 (pm1 (pm1 (pm1 (pm1 (pm1 (pm1 (pk K))))))))))))) fun t3 w=>
 S1 w∧(DoX prog (mStore 90 t3 t15) w (pm1 (pm1 (pm1 (pm1 (pm1 (pm1 (pm1 (pm1 (pm1 (pm1 (pm1 (pm1 (pk K))))))))))))) fun _ w=>
 (S_parse_reader_next_0 t0 t2 t3 t16 w K))))∧(DoX prog (mAlloc 90) w (pm1 (pm1 (pm1 (pm1 (pm1 (pm1 (pm1 (pm1 (pm1 (pm1 (pm1 (pm1 (pk K))))))))))))) fun t3_1 w=>
 S1 w∧(CallX prog 63 #[t9,t13] w (pm1 (pm1 (pm1 (pm1 (pm1 (pm1 (pm1 (pm1 (pm1 (pm1 (pm1 (pm1 (pk K))))))))))))) fun t14_1 w=>
 (HDo prog (fun _=>True) (mExt t14_1 0) fun t15_1=>
 HDo prog (fun _=>True) (mExt t14_1 1) fun t16_1=>
 DoX prog (mStore 90 t3_1 t15_1) w (pm1 (pm1 (pm1 (pm1 (pm1 (pm1 (pm1 (pm1 (pm1 (pm1 (pm1 (pm1 (pk K))))))))))))) fun _ w=>
 (S_parse_reader_next_0 t0 t2 t3_1 t16_1 w K)))))
theorem S_parse_reader_next_eq (t0:Value)(w:World)(K:Ending→World→Prop):wpX prog 31 [(4,[]),(6,[])] [] none (bodyOf Tryz.f118) (topQ prog [.cell 2 90] K) (startX [t0]) [] w=S_parse_reader_next t0 w K:=by kernel_rfl
theorem S_parse_reader_next_ok {t0:Value}{w:World}{K:Ending→World→Prop}(h:S_parse_reader_next t0 w K):Calls prog 118 #[t0] w K:=
 calls_of_wpX Tryz.func118 rfl rfl rfl rfl (Eq.mpr (S_parse_reader_next_eq t0 w K) h)
def S_parse_word (t0 t1 t2:Value)(w:World)(K:Ending→World→Prop):Prop:=
 DoX prog (mBox 90 t0) w (pk K) fun t3 w=>
 DoX prog (mFA 90 t3 0) w (pk K) fun t7 w=>
 DoX prog (mLoad 3 t7) w (pk K) fun t8 w=>
 DoX prog (mEq .eql 3 (.tmp 8) (.tmp 9) t8 t1) w (pk K) fun t10 w=>
 GDo t10 true (fun E=>DoX prog (mFA 90 t3 4) w (pk K) E) w fun t12 w=>
 GDo t10 true (fun E=>DoX prog (mLoad 9 t12) w (pk K) E) w fun t13 w=>
 GDo t10 true (fun E=>E t2 w) w fun t14 w=>
 GDo t10 true (fun E=>DoX prog (mEq .eql 9 (.tmp 13) (.tmp 14) t13 t14) w (pk K) E) w fun t15 w=>
 DoX prog (mPick t10 t15 (.bool false)) w (pk K) fun t16 w=>
 K (.returned t16) w
theorem S_parse_word_eq (t0 t1 t2:Value)(w:World)(K:Ending→World→Prop):wpX prog 17 [] [] none (bodyOf Tryz.f226) (topQ prog [.tmp 6] K) (startX [t0,t1,t2]) [] w=S_parse_word t0 t1 t2 w K:=by kernel_rfl
theorem S_parse_word_ok {t0 t1 t2:Value}{w:World}{K:Ending→World→Prop}(h:S_parse_word t0 t1 t2 w K):Calls prog 226 #[t0,t1,t2] w K:=
 calls_of_wpX Tryz.func226 rfl rfl rfl rfl (Eq.mpr (S_parse_word_eq t0 t1 t2 w K) h)
def S_parse_begins (t0:Value)(w:World)(K:Ending→World→Prop):Prop:=
 DoX prog (mBox 90 t0) w (pk K) fun t1 w=>
 DoX prog (mFA 90 t1 0) w (pk K) fun t3 w=>
 DoX prog (mLoad 3 t3) w (pk K) fun t4 w=>
 DoX prog (mEq .eql 3 (.tmp 4) (.const (.int .i64 5)) t4 (.int .i64 5)) w (pk K) fun t6 w=>
 IfX t6 (DoX prog (mFA 90 t1 4) w (pk K) fun t7 w=>
 DoX prog (mLoad 9 t7) w (pk K) fun t8 w=>
 DoX prog (mEq .eql 9 (.tmp 8) (.const (.string ⟨#[116,114,117,101]⟩)) t8 (.string ⟨#[116,114,117,101]⟩)) w (pk K) fun t9 w=>
 GDo t9 false (fun E=>DoX prog (mFA 90 t1 4) w (pk K) E) w fun t11 w=>
 GDo t9 false (fun E=>DoX prog (mLoad 9 t11) w (pk K) E) w fun t12 w=>
 GDo t9 false (fun E=>DoX prog (mEq .eql 9 (.tmp 12) (.const (.string ⟨#[102,97,108,115,101]⟩)) t12 (.string ⟨#[102,97,108,115,101]⟩)) w (pk K) E) w fun t13 w=>
 DoX prog (mPick t9 (.bool true) t13) w (pk K) fun t14 w=>
 GDo t14 false (fun E=>DoX prog (mFA 90 t1 4) w (pk K) E) w fun t16 w=>
 GDo t14 false (fun E=>DoX prog (mLoad 9 t16) w (pk K) E) w fun t17 w=>
 GDo t14 false (fun E=>DoX prog (mEq .eql 9 (.tmp 17) (.const (.string ⟨#[110,117,108,108]⟩)) t17 (.string ⟨#[110,117,108,108]⟩)) w (pk K) E) w fun t18 w=>
 DoX prog (mPick t14 (.bool true) t18) w (pk K) fun t19 w=>
 K (.returned t19) w) (DoX prog (mEq .eql 3 (.tmp 4) (.const (.int .i64 6)) t4 (.int .i64 6)) w (pk K) fun t21 w=>
 IfX t21 (DoX prog (mFA 90 t1 4) w (pk K) fun t22 w=>
 DoX prog (mLoad 9 t22) w (pk K) fun t23 w=>
 DoX prog (mEq .eql 9 (.tmp 23) (.const (.string ⟨#[91]⟩)) t23 (.string ⟨#[91]⟩)) w (pk K) fun t24 w=>
 GDo t24 false (fun E=>DoX prog (mFA 90 t1 4) w (pk K) E) w fun t26 w=>
 GDo t24 false (fun E=>DoX prog (mLoad 9 t26) w (pk K) E) w fun t27 w=>
 GDo t24 false (fun E=>DoX prog (mEq .eql 9 (.tmp 27) (.const (.string ⟨#[60,60]⟩)) t27 (.string ⟨#[60,60]⟩)) w (pk K) E) w fun t28 w=>
 DoX prog (mPick t24 (.bool true) t28) w (pk K) fun t29 w=>
 K (.returned t29) w) (K (.returned (.bool true)) w))
theorem S_parse_begins_eq (t0:Value)(w:World)(K:Ending→World→Prop):wpX prog 30 [] [] none (bodyOf Tryz.f179) (topQ prog [.tmp 2] K) (startX [t0]) [] w=S_parse_begins t0 w K:=by kernel_rfl
theorem S_parse_begins_ok {t0:Value}{w:World}{K:Ending→World→Prop}(h:S_parse_begins t0 w K):Calls prog 179 #[t0] w K:=
 calls_of_wpX Tryz.func179 rfl rfl rfl rfl (Eq.mpr (S_parse_begins_eq t0 w K) h)
def S_parse_reader_ref (t0 t1:Value)(w:World)(K:Ending→World→Prop):Prop:=
 DoX prog (mBox 90 t1) w (pk K) fun t3 w=>
 DoX prog (mAlloc 27) w (pk K) fun t4 w=>
 DoX prog (mFA 90 t3 3) w (pk K) fun t9 w=>
 DoX prog (mLoad 2 t9) w (pk K) fun t10 w=>
 DoX prog (mBin .lss 2 t10 (.int .i64 1)) w (pk K) fun t11 w=>
 GDo t11 false (fun E=>DoX prog (mFA 90 t3 3) w (pk K) E) w fun t13 w=>
 GDo t11 false (fun E=>DoX prog (mLoad 2 t13) w (pk K) E) w fun t14 w=>
 GDo t11 false (fun E=>DoX prog (mBin .gtr 2 t14 (.int .i64 8191)) w (pk K) E) w fun t15 w=>
 DoX prog (mPick t11 (.bool true) t15) w (pk K) fun t16 w=>
 IfX t16 (DoX prog (mBuild 27 #[]) w (pk K) fun t17 w=>
 DoX prog (mStore 27 t4 t17) w (pk K) fun _ w=>
 RetX prog [.cell t4 27,.val (.bool false)] w K) (DoX prog (mFA 90 t3 2) w (pk K) fun t20 w=>
 DoX prog (mLoad 3 t20) w (pk K) fun t21 w=>
 CallX prog 225 #[t0,t21] w (pk K) fun t22 w=>
 DoX prog (mExt t22 0) w (pk K) fun t23 w=>
 DoX prog (mExt t22 1) w (pk K) fun t24 w=>
 DoX prog (mAlloc 90) w (pk K) fun t6 w=>
 DoX prog (mStore 90 t6 t23) w (pk K) fun _ w=>
 DoX prog (mUn .not t24) w (pk K) fun t26 w=>
 GDo t26 false (fun E=>DoX prog (mFA 90 t6 0) w (pk K) E) w fun t28 w=>
 GDo t26 false (fun E=>DoX prog (mLoad 3 t28) w (pk K) E) w fun t29 w=>
 GDo t26 false (fun E=>DoX prog (mEq .neq 3 (.tmp 29) (.const (.int .i64 1)) t29 (.int .i64 1)) w (pk K) E) w fun t30 w=>
 DoX prog (mPick t26 (.bool true) t30) w (pk K) fun t31 w=>
 GDo t31 false (fun E=>DoX prog (mFA 90 t6 3) w (pk K) E) w fun t33 w=>
 GDo t31 false (fun E=>DoX prog (mLoad 2 t33) w (pk K) E) w fun t34 w=>
 GDo t31 false (fun E=>DoX prog (mBin .lss 2 t34 (.int .i64 0)) w (pk K) E) w fun t35 w=>
 DoX prog (mPick t31 (.bool true) t35) w (pk K) fun t36 w=>
 GDo t36 false (fun E=>DoX prog (mFA 90 t6 3) w (pk K) E) w fun t38 w=>
 GDo t36 false (fun E=>DoX prog (mLoad 2 t38) w (pk K) E) w fun t39 w=>
 GDo t36 false (fun E=>DoX prog (mBin .gtr 2 t39 (.int .i64 65535)) w (pk K) E) w fun t40 w=>
 DoX prog (mPick t36 (.bool true) t40) w (pk K) fun t41 w=>
 IfX t41 (DoX prog (mBuild 27 #[]) w (pk K) fun t42 w=>
 DoX prog (mStore 27 t4 t42) w (pk K) fun _ w=>
 RetX prog [.cell t4 27,.val (.bool false)] w K) (DoX prog (mFA 90 t6 2) w (pk K) fun t45 w=>
 DoX prog (mLoad 3 t45) w (pk K) fun t46 w=>
 CallX prog 225 #[t0,t46] w (pk K) fun t47 w=>
 DoX prog (mExt t47 0) w (pk K) fun t48 w=>
 DoX prog (mExt t47 1) w (pk K) fun t49 w=>
 DoX prog (mAlloc 90) w (pk K) fun t8 w=>
 DoX prog (mStore 90 t8 t48) w (pk K) fun _ w=>
 DoX prog (mUn .not t49) w (pk K) fun t51 w=>
 GDo t51 false (fun E=>DoX prog (mLoad 90 t8) w (pk K) E) w fun t53 w=>
 GDo t51 false (fun E=>CallX prog 226 #[t53,(.int .i64 5),(.string ⟨#[82]⟩)] w (pk K) E) w fun t54 w=>
 GDo t51 false (fun E=>DoX prog (mUn .not t54) w (pk K) E) w fun t55 w=>
 DoX prog (mPick t51 (.bool true) t55) w (pk K) fun t56 w=>
 IfX t56 (DoX prog (mBuild 27 #[]) w (pk K) fun t57 w=>
 DoX prog (mStore 27 t4 t57) w (pk K) fun _ w=>
 RetX prog [.cell t4 27,.val (.bool false)] w K) (DoX prog (mFA 90 t8 2) w (pk K) fun t59 w=>
 DoX prog (mLoad 3 t59) w (pk K) fun t60 w=>
 DoX prog (mNil t0) w (pk K) fun t61 w=>
 DoX prog (mFA 118 t61 1) w (pk K) fun t62 w=>
 DoX prog (mStore 3 t62 t60) w (pk K) fun _ w=>
 DoX prog (mFA 90 t3 3) w (pk K) fun t63 w=>
 DoX prog (mLoad 2 t63) w (pk K) fun t64 w=>
 DoX prog (mFA 90 t6 3) w (pk K) fun t65 w=>
 DoX prog (mLoad 2 t65) w (pk K) fun t66 w=>
 CallX prog 227 #[t64,t66] w (pk K) fun t67 w=>
 DoX prog (mStore 27 t4 t67) w (pk K) fun _ w=>
 RetX prog [.cell t4 27,.val (.bool true)] w K)))
theorem S_parse_reader_ref_eq (t0 t1:Value)(w:World)(K:Ending→World→Prop):wpX prog 68 [] [] none (bodyOf Tryz.f180) (topQ prog [.cell 4 27,.tmp 5] K) (startX [t0,t1]) [] w=S_parse_reader_ref t0 t1 w K:=by kernel_rfl
theorem S_parse_reader_ref_ok {t0 t1:Value}{w:World}{K:Ending→World→Prop}(h:S_parse_reader_ref t0 t1 w K):Calls prog 180 #[t0,t1] w K:=
 calls_of_wpX Tryz.func180 rfl rfl rfl rfl (Eq.mpr (S_parse_reader_ref_eq t0 t1 w K) h)
def S_parse_reader_object_1 (t0 t2 t4 t6:Value)(w:World)(K:Ending→World→Prop):Prop:=
 DoX prog (mFA 90 t4 0) w (pk K) fun t16 w=>
 DoX prog (mLoad 3 t16) w (pk K) fun t17 w=>
 DoX prog (mEq .eql 3 (.tmp 17) (.const (.int .i64 1)) t17 (.int .i64 1)) w (pk K) fun t19 w=>
 IfX t19 (DoX prog (mLoad 90 t4) w (pk K) fun t22 w=>
 CallX prog 180 #[t0,t22] w (pk K) fun t23 w=>
 DoX prog (mExt t23 0) w (pk K) fun t24 w=>
 DoX prog (mExt t23 1) w (pk K) fun t25 w=>
 DoX prog (mAlloc 27) w (pk K) fun t7 w=>
 DoX prog (mStore 27 t7 t24) w (pk K) fun _ w=>
 IfX t25 (DoX prog (mLoad 27 t7) w (pk K) fun t27 w=>
 DoX prog (mStore 27 t6 t27) w (pk K) fun _ w=>
 RetX prog [.cell t6 27] w K) (DoX prog (mFA 90 t4 3) w (pk K) fun t28 w=>
 DoX prog (mLoad 2 t28) w (pk K) fun t29 w=>
 CallX prog 181 #[t29] w (pk K) fun t30 w=>
 DoX prog (mStore 27 t6 t30) w (pk K) fun _ w=>
 RetX prog [.cell t6 27] w K)) (DoX prog (mEq .eql 3 (.tmp 17) (.const (.int .i64 2)) t17 (.int .i64 2)) w (pk K) fun t32 w=>
 IfX t32 (DoX prog (mFA 90 t4 3) w (pk K) fun t33 w=>
 DoX prog (mLoad 2 t33) w (pk K) fun t34 w=>
 CallX prog 182 #[t34] w (pk K) fun t35 w=>
 DoX prog (mStore 27 t6 t35) w (pk K) fun _ w=>
 RetX prog [.cell t6 27] w K) (DoX prog (mEq .eql 3 (.tmp 17) (.const (.int .i64 3)) t17 (.int .i64 3)) w (pk K) fun t37 w=>
 IfX t37 (DoX prog (mFA 90 t4 4) w (pk K) fun t38 w=>
 DoX prog (mLoad 9 t38) w (pk K) fun t39 w=>
 CallX prog 183 #[t39] w (pk K) fun t40 w=>
 DoX prog (mStore 27 t6 t40) w (pk K) fun _ w=>
 RetX prog [.cell t6 27] w K) (DoX prog (mEq .eql 3 (.tmp 17) (.const (.int .i64 4)) t17 (.int .i64 4)) w (pk K) fun t42 w=>
 IfX t42 (DoX prog (mFA 90 t4 4) w (pk K) fun t43 w=>
 DoX prog (mLoad 9 t43) w (pk K) fun t44 w=>
 CallX prog 184 #[t44] w (pk K) fun t45 w=>
 DoX prog (mStore 27 t6 t45) w (pk K) fun _ w=>
 RetX prog [.cell t6 27] w K) (DoX prog (mEq .eql 3 (.tmp 17) (.const (.int .i64 5)) t17 (.int .i64 5)) w (pk K) fun t47 w=>
 IfX t47 (DoX prog (mFA 90 t4 4) w (pk K) fun t48 w=>
 DoX prog (mLoad 9 t48) w (pk K) fun t49 w=>
 DoX prog (mEq .eql 9 (.tmp 49) (.const (.string ⟨#[110,117,108,108]⟩)) t49 (.string ⟨#[110,117,108,108]⟩)) w (pk K) fun t50 w=>
 IfX t50 (CallX prog 185 #[] w (pk K) fun t51 w=>
 DoX prog (mStore 27 t6 t51) w (pk K) fun _ w=>
 RetX prog [.cell t6 27] w K) (DoX prog (mFA 90 t4 4) w (pk K) fun t52 w=>
 DoX prog (mLoad 9 t52) w (pk K) fun t53 w=>
 DoX prog (mEq .eql 9 (.tmp 53) (.const (.string ⟨#[116,114,117,101]⟩)) t53 (.string ⟨#[116,114,117,101]⟩)) w (pk K) fun t54 w=>
 CallX prog 186 #[t54] w (pk K) fun t55 w=>
 DoX prog (mStore 27 t6 t55) w (pk K) fun _ w=>
 RetX prog [.cell t6 27] w K)) (DoX prog (mFA 90 t4 4) w (pk K) fun t56 w=>
 DoX prog (mLoad 9 t56) w (pk K) fun t57 w=>
 DoX prog (mEq .eql 9 (.tmp 57) (.const (.string ⟨#[91]⟩)) t57 (.string ⟨#[91]⟩)) w (pk K) fun t58 w=>
 IfX t58 (DoX prog (mBin .add 3 t2 (.int .i64 1)) w (pk K) fun t61 w=>
 CallX prog 187 #[t0,t61] w (pk K) fun t62 w=>
 DoX prog (mStore 27 t6 t62) w (pk K) fun _ w=>
 RetX prog [.cell t6 27] w K) (DoX prog (mBin .add 3 t2 (.int .i64 1)) w (pk K) fun t65 w=>
 CallX prog 188 #[t0,t65] w (pk K) fun t66 w=>
 DoX prog (mStore 27 t6 t66) w (pk K) fun _ w=>
 RetX prog [.cell t6 27] w K))))))
def S_parse_reader_object_0 (t0 t2 t4 t6:Value)(w:World)(K:Ending→World→Prop):Prop:=
 JoinX (fun J2=>
 DoX prog (mBin .geq 3 t2 (.int .i64 24)) w (pk K) fun t14 w=>
 IfX t14 (DoX prog (mIface 200 (.int .i64 7)) w (pk K) fun t15 w=>
 DoX prog (mPanic t15) w (pk K) fun _ w=>
 J2 [] w) (J2 [] w)) (fun vs2 w=>∀_:Sg,S_parse_reader_object_1 t0 t2 t4 t6 w K)
def S_parse_reader_object (t0 t1 t2:Value)(w:World)(K:Ending→World→Prop):Prop:=
 DoX prog (mBox 90 t1) w (pk K) fun t4 w=>
 DoX prog (mAlloc 27) w (pk K) fun t6 w=>
 JoinX (fun J1=>
 DoX prog (mLoad 90 t4) w (pk K) fun t9 w=>
 CallX prog 179 #[t9] w (pk K) fun t10 w=>
 DoX prog (mUn .not t10) w (pk K) fun t11 w=>
 IfX t11 (DoX prog (mIface 200 (.int .i64 3)) w (pk K) fun t12 w=>
 DoX prog (mPanic t12) w (pk K) fun _ w=>
 J1 [] w) (J1 [] w)) (fun vs1 w=>∀_:Sg,S_parse_reader_object_0 t0 t2 t4 t6 w K)
theorem S_parse_reader_object_eq (t0 t1 t2:Value)(w:World)(K:Ending→World→Prop):wpX prog 67 [(3,[]),(5,[])] [] none (bodyOf Tryz.f117) (topQ prog [.cell 6 27] K) (startX [t0,t1,t2]) [] w=S_parse_reader_object t0 t1 t2 w K:=by kernel_rfl
theorem S_parse_reader_object_ok {t0 t1 t2:Value}{w:World}{K:Ending→World→Prop}(h:S_parse_reader_object t0 t1 t2 w K):Calls prog 117 #[t0,t1,t2] w K:=
 calls_of_wpX Tryz.func117 rfl rfl rfl rfl (Eq.mpr (S_parse_reader_object_eq t0 t1 t2 w K) h)
def S_parse_reader_array_1 (t0 t1 t5 t6:Value)(w:World)(N1:List Value→World→Prop)(K:Ending→World→Prop):Prop:=
 HeldX w (fun S3 w=>
 HDo prog (fun _=>True) (mFA 27 t5 5) fun t26=>
 HDo prog S3 (mLoad 25 t26) fun t27=>
 HDo prog S3 (mLoad 90 t6) fun t29=>
 CallX prog 117 #[t0,t29,t1] w (pm1 (pm1 (pm1 (pm1 (pm1 (pm1 (pk K))))))) fun t31 w=>
 S3 w∧(DoX prog (mBuildS 25 1 #[(0,t31)]) w (pm1 (pm1 (pm1 (pm1 (pm1 (pm1 (pk K))))))) fun t32 w=>
 S3 w∧(DoX prog (mB .append #[25,25] 25 #[false,false] #[t27,t32]) w (pm1 (pm1 (pm1 (pm1 (pm1 (pm1 (pk K))))))) fun t33 w=>
 S3 w∧(HDo prog (fun _=>True) (mFA 27 t5 5) fun t34=>
 DoX prog (mStore 25 t34 t33) w (pm1 (pm1 (pm1 (pm1 (pm1 (pm1 (pk K))))))) fun _ w=>
 (N1 [] w)))))
def S_parse_reader_array_0 (t0 t1 t4 t5:Value)(w:World)(N1:List Value→World→Prop)(K:Ending→World→Prop):Prop:=
 CallX prog 118 #[t0] w (pk K) fun t9 w=>
 DoX prog (mAlloc 90) w (pk K) fun t6 w=>
 DoX prog (mStore 90 t6 t9) w (pk K) fun _ w=>
 DoX prog (mLoad 90 t6) w (pk K) fun t10 w=>
 CallX prog 226 #[t10,(.int .i64 6),(.string ⟨#[93]⟩)] w (pk K) fun t11 w=>
 IfX t11 (DoX prog (mLoad 27 t5) w (pk K) fun t12 w=>
 DoX prog (mStore 27 t4 t12) w (pk K) fun _ w=>
 RetX prog [.cell t4 27] w K) (JoinX (fun J2=>
 DoX prog (mLoad 90 t6) w (pk K) fun t13 w=>
 CallX prog 179 #[t13] w (pk K) fun t14 w=>
 GDo t14 true (fun E=>E t1 w) w fun t16 w=>
 GDo t14 true (fun E=>DoX prog (mBin .lss 3 t16 (.int .i64 24)) w (pk K) E) w fun t17 w=>
 DoX prog (mPick t14 t17 (.bool false)) w (pk K) fun t18 w=>
 GDo t18 true (fun E=>DoX prog (mFA 27 t5 5) w (pk K) E) w fun t20 w=>
 GDo t18 true (fun E=>DoX prog (mLoad 25 t20) w (pk K) E) w fun t21 w=>
 GDo t18 true (fun E=>DoX prog (mB .len #[25] 3 #[false] #[t21]) w (pk K) E) w fun t22 w=>
 GDo t18 true (fun E=>DoX prog (mBin .geq 3 t22 (.int .i64 8191)) w (pk K) E) w fun t23 w=>
 DoX prog (mPick t18 t23 (.bool false)) w (pk K) fun t24 w=>
 IfX t24 (DoX prog (mIface 200 (.int .i64 6)) w (pk K) fun t25 w=>
 DoX prog (mPanic t25) w (pk K) fun _ w=>
 J2 [] w) (J2 [] w)) (fun vs2 w=>∀_:Sg,S_parse_reader_array_1 t0 t1 t5 t6 w N1 K))
def S_parse_reader_array (t0 t1:Value)(w:World)(K:Ending→World→Prop):Prop:=
 DoX prog (mAlloc 27) w (pk K) fun t4 w=>
 DoX prog (mBuild 27 #[(0,(.int .i64 6))]) w (pk K) fun t7 w=>
 DoX prog (mAlloc 27) w (pk K) fun t5 w=>
 DoX prog (mStore 27 t5 t7) w (pk K) fun _ w=>
 LoopX [] w (fun vs1 w N1=>∀_:Sg,S_parse_reader_array_0 t0 t1 t4 t5 w N1 K)
theorem S_parse_reader_array_eq (t0 t1:Value)(w:World)(K:Ending→World→Prop):wpX prog 35 [(7,[])] [(2,[])] none (bodyOf Tryz.f187) (topQ prog [.cell 4 27] K) (startX [t0,t1]) [] w=S_parse_reader_array t0 t1 w K:=by kernel_rfl
theorem S_parse_reader_array_ok {t0 t1:Value}{w:World}{K:Ending→World→Prop}(h:S_parse_reader_array t0 t1 w K):Calls prog 187 #[t0,t1] w K:=
 calls_of_wpX Tryz.func187 rfl rfl rfl rfl (Eq.mpr (S_parse_reader_array_eq t0 t1 w K) h)
def S_parse_reader_dict_3 (t0 t1 t5 t6:Value)(w:World)(N1:List Value→World→Prop)(K:Ending→World→Prop):Prop:=
 HeldX w (fun S5 w=>
 HDo prog S5 (mFA 90 t6 4) fun t40=>
 HDo prog S5 (mLoad 9 t40) fun t41=>
 CallX prog 118 #[t0] w (pm1 (pm1 (pm1 (pm1 (pm1 (pm1 (pk K))))))) fun t44 w=>
 S5 w∧(CallX prog 117 #[t0,t44,t1] w (pm1 (pm1 (pm1 (pm1 (pm1 (pm1 (pk K))))))) fun t46 w=>
 S5 w∧(DoX prog (mMapU 229 t5 t41 t46) w (pm1 (pm1 (pm1 (pm1 (pm1 (pm1 (pk K))))))) fun _ w=>
 S5 w∧(N1 [] w))))
def S_parse_reader_dict_2 (t4 t5 t9 t68 t69 t70:Value)(w:World)(N3:List Value→World→Prop)(K:Ending→World→Prop):Prop:=
 DoX prog (mBin .lss 3 t70 t69) w (pk K) fun t71 w=>
 IfX t71 (DoX prog (mIA 24 t68 t70) w (pk K) fun t72 w=>
 DoX prog (mLoad 9 t72) w (pk K) fun t73 w=>
 DoX prog (mFA 27 t9 5) w (pk K) fun t74 w=>
 DoX prog (mLoad 25 t74) w (pk K) fun t75 w=>
 DoX prog (mLook 229 t5 t73 false) w (pk K) fun t78 w=>
 DoX prog (mBuildS 25 1 #[(0,t78)]) w (pk K) fun t79 w=>
 DoX prog (mB .append #[25,25] 25 #[false,false] #[t75,t79]) w (pk K) fun t80 w=>
 DoX prog (mFA 27 t9 5) w (pk K) fun t81 w=>
 DoX prog (mStore 25 t81 t80) w (pk K) fun _ w=>
 DoX prog (mBin .add 3 t70 (.int .i64 1)) w (pk K) fun t82 w=>
 N3 [t82] w) (DoX prog (mLoad 27 t9) w (pk K) fun t83 w=>
 DoX prog (mStore 27 t4 t83) w (pk K) fun _ w=>
 RetX prog [.cell t4 27] w K)
def S_parse_reader_dict_1 (t4 t5 t9 t49:Value)(w:World)(N2:List Value→World→Prop)(K:Ending→World→Prop):Prop:=
 DoX prog (mNext t49 false 0) w (pk K) fun t50 w=>
 DoX prog (mExt t50 0) w (pk K) fun t51 w=>
 IfX t51 (DoX prog (mEntry t49) w (pk K) fun t52 w=>
 DoX prog (mExt t52 0) w (pk K) fun t53 w=>
 DoX prog (mExt t52 1) w (pk K) fun t54 w=>
 DoX prog (mAlloc 27) w (pk K) fun t11 w=>
 DoX prog (mStore 27 t11 t54) w (pk K) fun _ w=>
 DoX prog (mFA 27 t11 0) w (pk K) fun t55 w=>
 DoX prog (mLoad 3 t55) w (pk K) fun t56 w=>
 DoX prog (mEq .neq 3 (.tmp 56) (.const (.int .i64 0)) t56 (.int .i64 0)) w (pk K) fun t57 w=>
 IfX t57 (DoX prog (mFA 27 t9 4) w (pk K) fun t58 w=>
 DoX prog (mLoad 24 t58) w (pk K) fun t59 w=>
 DoX prog (mBuildS 24 1 #[(0,t53)]) w (pk K) fun t61 w=>
 DoX prog (mB .append #[24,24] 24 #[false,false] #[t59,t61]) w (pk K) fun t62 w=>
 DoX prog (mFA 27 t9 4) w (pk K) fun t63 w=>
 DoX prog (mStore 24 t63 t62) w (pk K) fun _ w=>
 N2 [] w) (N2 [] w)) (DoX prog (mFA 27 t9 4) w (pk K) fun t64 w=>
 DoX prog (mLoad 24 t64) w (pk K) fun t65 w=>
 CallX prog 228 #[t65] w (pk K) fun t66 w=>
 DoX prog (mFA 27 t9 4) w (pk K) fun t67 w=>
 DoX prog (mLoad 24 t67) w (pk K) fun t68 w=>
 DoX prog (mB .len #[24] 3 #[false] #[t68]) w (pk K) fun t69 w=>
 LoopX [(.int .i64 0)] w (fun vs3 w N3=>∀_:Sg,S_parse_reader_dict_2 t4 t5 t9 t68 t69 (vs3.getD 0 undef) w N3 K))
def S_parse_reader_dict_0 (t0 t1 t4 t5:Value)(w:World)(N1:List Value→World→Prop)(K:Ending→World→Prop):Prop:=
 CallX prog 118 #[t0] w (pk K) fun t16 w=>
 DoX prog (mAlloc 90) w (pk K) fun t6 w=>
 DoX prog (mStore 90 t6 t16) w (pk K) fun _ w=>
 DoX prog (mLoad 90 t6) w (pk K) fun t17 w=>
 CallX prog 226 #[t17,(.int .i64 6),(.string ⟨#[62,62]⟩)] w (pk K) fun t18 w=>
 IfX t18 (DoX prog (mBuild 27 #[(0,(.int .i64 7))]) w (pk K) fun t47 w=>
 DoX prog (mAlloc 27) w (pk K) fun t9 w=>
 DoX prog (mStore 27 t9 t47) w (pk K) fun _ w=>
 DoX prog (mRange 229 t5) w (pk K) fun t49 w=>
 LoopX [] w (fun vs2 w N2=>∀_:Sg,S_parse_reader_dict_1 t4 t5 t9 t49 w N2 K)) (DoX prog (mFA 90 t6 4) w (pk K) fun t21 w=>
 DoX prog (mLoad 9 t21) w (pk K) fun t22 w=>
 DoX prog (mLook 229 t5 t22 true) w (pk K) fun t23 w=>
 DoX prog (mExt t23 0) w (pk K) fun t24 w=>
 DoX prog (mExt t23 1) w (pk K) fun t25 w=>
 DoX prog (mAlloc 27) w (pk K) fun t7 w=>
 DoX prog (mStore 27 t7 t24) w (pk K) fun _ w=>
 JoinX (fun J4=>
 DoX prog (mFA 90 t6 0) w (pk K) fun t27 w=>
 DoX prog (mLoad 3 t27) w (pk K) fun t28 w=>
 DoX prog (mEq .neq 3 (.tmp 28) (.const (.int .i64 4)) t28 (.int .i64 4)) w (pk K) fun t29 w=>
 IfX t29 (DoX prog (mIface 200 (.int .i64 3)) w (pk K) fun t30 w=>
 DoX prog (mPanic t30) w (pk K) fun _ w=>
 J4 [] w) (IfX t25 (DoX prog (mIface 200 (.int .i64 9)) w (pk K) fun t33 w=>
 DoX prog (mPanic t33) w (pk K) fun _ w=>
 J4 [] w) (DoX prog (mB .len #[229] 3 #[false] #[t5]) w (pk K) fun t36 w=>
 DoX prog (mBin .geq 3 t36 (.int .i64 8191)) w (pk K) fun t37 w=>
 IfX t37 (DoX prog (mIface 200 (.int .i64 6)) w (pk K) fun t38 w=>
 DoX prog (mPanic t38) w (pk K) fun _ w=>
 J4 [] w) (J4 [] w)))) (fun vs4 w=>∀_:Sg,S_parse_reader_dict_3 t0 t1 t5 t6 w N1 K))
def S_parse_reader_dict (t0 t1:Value)(w:World)(K:Ending→World→Prop):Prop:=
 DoX prog (mAlloc 27) w (pk K) fun t4 w=>
 DoX prog (mMap 229 none) w (pk K) fun t14 w=>
 LoopX [] w (fun vs1 w N1=>∀_:Sg,S_parse_reader_dict_0 t0 t1 t4 t14 w N1 K)
theorem S_parse_reader_dict_eq (t0 t1:Value)(w:World)(K:Ending→World→Prop):wpX prog 84 [(11,[])] [(2,[]),(14,[]),(20,[70])] none (bodyOf Tryz.f188) (topQ prog [.cell 4 27] K) (startX [t0,t1]) [] w=S_parse_reader_dict t0 t1 w K:=by kernel_rfl
theorem S_parse_reader_dict_ok {t0 t1:Value}{w:World}{K:Ending→World→Prop}(h:S_parse_reader_dict t0 t1 w K):Calls prog 188 #[t0,t1] w K:=
 calls_of_wpX Tryz.func188 rfl rfl rfl rfl (Eq.mpr (S_parse_reader_dict_eq t0 t1 w K) h)
def S_parse_face (t0 r:Value)(w:World)(K:Ending→World→Prop):Prop:=
 DoX prog (mEq .eql 20 (.tmp 5) (.const .nilIface) r .nilIface) w (pk K) fun t7 w=>
 IfX t7 (K (.returned (.tuple #[])) w) (DoX prog (mTA r 20 200 true) w (pk K) fun t8 w=>
 DoX prog (mExt t8 1) w (pk K) fun t9 w=>
 DoX prog (mExt t8 0) w (pk K) fun t10 w=>
 IfX t9 (DoX prog (mNil t0) w (pk K) fun t13 w=>
 DoX prog (mStore 30 t13 t10) w (pk K) fun _ w=>
 K (.returned (.tuple #[])) w) (DoX prog (mPanic r) w (pk K) fun _ w=>
 K (.returned (.tuple #[])) w))
theorem S_parse_face_eq (t0 r:Value)(w:World)(K:Ending→World→Prop):wpX prog 14 [] [] none (sndOf (bodyOf Tryz.f116)) (topD prog [] K) (upd (startX [t0]) 5 r) [] w=S_parse_face t0 r w K:=by kernel_rfl
theorem S_parse_face_dok {t0:Value}{u:FrameMode}{w:World}{R:Ending→FrameMode→World→Prop}(h:S_parse_face t0 (recV u) w (fun e w=>R e (recM u) w)):CallsD prog 116 #[t0] u w R:=
 callsD_recover Tryz.func116 rfl rfl rfl rfl rfl rfl rfl rfl (Eq.mpr (S_parse_face_eq t0 (recV u) w _) h)
def S_parse_reader_read_p0 (x0:Value)(x1:Value)(K:Ending→World→Prop):=pd prog [.cell x0 27,.cell x1 30] K [{ target:=.fn (.func 116) #[],args:=#[x1] }]
def S_parse_reader_read (t0:Value)(w:World)(K:Ending→World→Prop):Prop:=
 DoX prog (mAlloc 27) w (pk K) fun t2 w=>
 DoX prog (mAlloc 30) w (pk K) fun t3 w=>
 CallX prog 118 #[t0] w (S_parse_reader_read_p0 t2 t3 K) fun t6 w=>
 CallX prog 117 #[t0,t6,(.int .i64 0)] w (S_parse_reader_read_p0 t2 t3 K) fun t7 w=>
 DoX prog (mStore 27 t2 t7) w (S_parse_reader_read_p0 t2 t3 K) fun _ w=>
 DoX prog (mStore 30 t3 (.int .i64 0)) w (S_parse_reader_read_p0 t2 t3 K) fun _ w=>
 Leave prog [.cell t2 27,.cell t3 30] K [{ target:=.fn (.func 116) #[],args:=#[t3] }] .returning w
theorem S_parse_reader_read_eq (t0:Value)(w:World)(K:Ending→World→Prop):wpX prog 8 [] [] none (bodyOf Tryz.f68) (topQ prog [.cell 2 27,.cell 3 30] K) (startX [t0]) [] w=S_parse_reader_read t0 w K:=by kernel_rfl
theorem S_parse_reader_read_ok {t0:Value}{w:World}{K:Ending→World→Prop}(h:S_parse_reader_read t0 w K):Calls prog 68 #[t0] w K:=
 calls_of_wpX Tryz.func68 rfl rfl rfl rfl (Eq.mpr (S_parse_reader_read_eq t0 w K) h)
def S_parse_Object (t0 t1:Value)(w:World)(K:Ending→World→Prop):Prop:=
 DoX prog (mAlloc 27) w (pk K) fun t4 w=>
 DoX prog (mBin .lss 3 t1 (.int .i64 0)) w (pk K) fun t11 w=>
 GDo t11 false (fun E=>E t1 w) w fun t13 w=>
 GDo t11 false (fun E=>E t0 w) w fun t14 w=>
 GDo t11 false (fun E=>DoX prog (mB .len #[9] 3 #[false] #[t14]) w (pk K) E) w fun t15 w=>
 GDo t11 false (fun E=>DoX prog (mBin .gtr 3 t13 t15) w (pk K) E) w fun t16 w=>
 DoX prog (mPick t11 (.bool true) t16) w (pk K) fun t17 w=>
 IfX t17 (DoX prog (mBuild 27 #[]) w (pk K) fun t18 w=>
 DoX prog (mStore 27 t4 t18) w (pk K) fun _ w=>
 RetX prog [.cell t4 27,.val (.int .i64 0),.val (.int .i64 1)] w K) (DoX prog (mBuild 118 #[(0,t0),(1,t1)]) w (pk K) fun t21 w=>
 DoX prog (mBox 118 t21) w (pk K) fun t22 w=>
 CallX prog 68 #[t22] w (pk K) fun t25 w=>
 DoX prog (mExt t25 0) w (pk K) fun t26 w=>
 DoX prog (mExt t25 1) w (pk K) fun t27 w=>
 DoX prog (mAlloc 27) w (pk K) fun t8 w=>
 DoX prog (mStore 27 t8 t26) w (pk K) fun _ w=>
 DoX prog (mEq .neq 30 (.tmp 28) (.const (.int .i64 0)) t27 (.int .i64 0)) w (pk K) fun t29 w=>
 IfX t29 (DoX prog (mBuild 27 #[]) w (pk K) fun t30 w=>
 DoX prog (mStore 27 t4 t30) w (pk K) fun _ w=>
 RetX prog [.cell t4 27,.val (.int .i64 0),.val t27] w K) (HeldX w (fun S1 w=>
 HDo prog S1 (mLoad 27 t8) fun t32=>
 HDo prog (fun _=>True) (mNil t22) fun t34=>
 HDo prog (fun _=>True) (mFA 118 t34 1) fun t35=>
 HDo prog S1 (mLoad 3 t35) fun t36=>
 DoX prog (mStore 27 t4 t32) w (pm1 (pm1 (pm1 (pm1 (pm1 (pm1 (pm1 (pk K)))))))) fun _ w=>
 S1 w∧(RetX prog [.cell t4 27,.val t36,.val (.int .i64 0)] w K))))
theorem S_parse_Object_eq (t0 t1:Value)(w:World)(K:Ending→World→Prop):wpX prog 37 [] [] none (bodyOf Tryz.f47) (topQ prog [.cell 4 27,.tmp 5,.tmp 6] K) (startX [t0,t1]) [] w=S_parse_Object t0 t1 w K:=by kernel_rfl
theorem S_parse_Object_ok {t0 t1:Value}{w:World}{K:Ending→World→Prop}(h:S_parse_Object t0 t1 w K):Calls prog 47 #[t0,t1] w K:=
 calls_of_wpX Tryz.func47 rfl rfl rfl rfl (Eq.mpr (S_parse_Object_eq t0 t1 w K) h)
end
section
open Eng Go.RowKit
 attribute [local congr] g_congr
section
variable {w:World}{PK:PKT}{K:VWP}{S:Nat→Prop}{w0:World}{L:List Ent}
theorem o_tkb (x:Lx.Tok)(ho:OwnS S w0 w L)(k:∀b w',OwnS S w0 w' (tokE b x::L)→K (.pointer (some ⟨b,0,none⟩)) w'):DoX prog (mBox 90 (tokV x)) w PK K:=
 o_new (fun b=>.pointer (some ⟨b,0,none⟩)) (tokC x) 90 (fun _=>by kernel_rfl) ho k
theorem tk_put (i:Nat){b:Nat}{x y:Lx.Tok}(ho:OwnS S w0 w L)(hi:L[i]?=some (tokE b x))(k:∀w',OwnS S w0 w' (L.set i (tokE b y))→K undef w') :
  DoX prog (mStore 90 (.pointer (some ⟨b,0,none⟩)) (tokV y)) w PK K:=o_put i ho hi (new:=tokC y) szTok (tokC_one y) rfl k
theorem tk_k (ho:OwnS S w0 w L)(i:Nat){b:Nat}{x:Lx.Tok}(hi:L[i]?=some (tokE b x)):DoX prog (mLoad 3 (.pointer (some ⟨b,0,none⟩))) w PK K=K (.int .i64 x.k) w:=l_cell nInt (ho.cell i hi 0 rfl)
theorem tk_a (ho:OwnS S w0 w L)(i:Nat){b:Nat}{x:Lx.Tok}(hi:L[i]?=some (tokE b x)):DoX prog (mLoad 3 (.pointer (some ⟨b,1,none⟩))) w PK K=K (.int .i64 x.a) w:=l_cell nInt (ho.cell i hi 1 rfl)
theorem tk_t (ho:OwnS S w0 w L)(i:Nat){b:Nat}{x:Lx.Tok}(hi:L[i]?=some (tokE b x)):DoX prog (mLoad 3 (.pointer (some ⟨b,2,none⟩))) w PK K=K (.int .i64 x.t) w:=l_cell nInt (ho.cell i hi 2 rfl)
theorem tk_n (ho:OwnS S w0 w L)(i:Nat){b:Nat}{x:Lx.Tok}(hi:L[i]?=some (tokE b x)):DoX prog (mLoad 2 (.pointer (some ⟨b,3,none⟩))) w PK K=K (.int .i64 x.n) w:=l_cell nI65 (ho.cell i hi 3 rfl)
theorem tk_s (ho:OwnS S w0 w L)(i:Nat){b:Nat}{x:Lx.Tok}(hi:L[i]?=some (tokE b x)):DoX prog (mLoad 9 (.pointer (some ⟨b,4,none⟩))) w PK K=K (.string ⟨x.s.toArray⟩) w:=l_cell nStr (ho.cell i hi 4 rfl)
theorem tk_v (ho:OwnS S w0 w L)(i:Nat){b:Nat}{x:Lx.Tok}(hi:L[i]?=some (tokE b x)):DoX prog (mLoad 90 (.pointer (some ⟨b,0,none⟩))) w PK K=K (tokV x) w:=l_at (ho.agg i hi aggTok)
theorem tkr_k (ho:OwnS S w0 w L)(i:Nat){b:Nat}{x:Lx.Tok}(hi:L[i]?=some (tokE b x)):(mLoad 3 (.pointer (some ⟨b,0,none⟩))).run prog w=.ok (.value (.int .i64 x.k)) w:=run_load_cell nInt (ho.cell i hi 0 rfl)
theorem tkr_t (ho:OwnS S w0 w L)(i:Nat){b:Nat}{x:Lx.Tok}(hi:L[i]?=some (tokE b x)):(mLoad 3 (.pointer (some ⟨b,2,none⟩))).run prog w=.ok (.value (.int .i64 x.t)) w:=run_load_cell nInt (ho.cell i hi 2 rfl)
theorem tkr_n (ho:OwnS S w0 w L)(i:Nat){b:Nat}{x:Lx.Tok}(hi:L[i]?=some (tokE b x)):(mLoad 2 (.pointer (some ⟨b,3,none⟩))).run prog w=.ok (.value (.int .i64 x.n)) w:=run_load_cell nI65 (ho.cell i hi 3 rfl)
theorem tkr_s (ho:OwnS S w0 w L)(i:Nat){b:Nat}{x:Lx.Tok}(hi:L[i]?=some (tokE b x)):(mLoad 9 (.pointer (some ⟨b,4,none⟩))).run prog w=.ok (.value (.string ⟨x.s.toArray⟩)) w:=run_load_cell nStr (ho.cell i hi 4 rfl)
theorem ft0:fOff prog 90 0=some 0:=by kernel_rfl
theorem ft2:fOff prog 90 2=some 2:=by kernel_rfl
theorem ft3:fOff prog 90 3=some 3:=by kernel_rfl
theorem ft4:fOff prog 90 4=some 4:=by kernel_rfl
theorem tk_new {f:Nat}{args:Array Value}{r:Lx.Tok×Int}{PK1 PK2 PK3 PK4 PK5:PKT}{K:Value→VWP}(ho:OwnS S w0 w L)(h:Ret prog f args w (fun v w'=>v=tokR r∧Below w.heap.size w w'))
  (k:∀b w',OwnS S w0 w' (tokE b r.1::L)→K (.int .i64 r.2) (.pointer (some ⟨b,0,none⟩)) w') :
  CallX prog f args w PK1 fun t w=>DoX prog (mExt t 0) w PK2 fun u w=>DoX prog (mExt t 1) w PK3 fun v w=>DoX prog (mAlloc 90) w PK4 fun q w=>DoX prog (mStore 90 q u) w PK5 fun _ w=>K v q w:=by
 refine c_below ho h ?_;rintro v w1 rfl ho;rw[tokR,x_0,x_1];refine o_tok ho fun b w2 ho=>?_;exact tk_put 0 ho rfl fun w3 ho=>k b w3 ho
end
theorem rfirst_ret (t:Lx.Tok)(w:World):Ret prog 72 #[tokV t] w (fun v w'=>v=.bool (Ps.begins t)∧Below w.heap.size w w'):=by
 refine ret_of fun K hK=>S_foliantref06_begins_ok ?_;unfold S_foliantref06_begins;refine o_tkb t (Own.start w) fun b w1 ho=>?_;have fin:∀{q:Bool},q=Ps.begins t→K (.returned (.bool q)) w1:=fun e=>hK _ _ ⟨by rw[e],ho.done⟩;by_cases h6:t.k=6
 ·by_cases h1:t.s=[91]
  ·simp only[rs,fa_t0,fa_t4',tk_k ho 0 rfl,tk_s ho 0 rfl,h6,h1,decide_true,g_un];exact fin (by simp[Ps.begins,h6,h1])
  ·simp only[rs,fa_t0,fa_t4',tk_k ho 0 rfl,tk_s ho 0 rfl,h6,decide_eq_false h1,decide_true,g_un];exact fin (by simp[Ps.begins,h6,h1])
 by_cases h0:t.k=0
 ·simp only[rs,fa_t0,fa_t4',tk_k ho 0 rfl,tk_s ho 0 rfl,h0,decide_true,decide_false,g_un,ne_eq,not_true,show ¬(0:Int)=6 by decide];exact fin (by simp[Ps.begins,h0])
 by_cases h5:t.k=5
 ·by_cases h1:t.s=Ps.tru
  ·have h1':t.s=[116,114,117,101]:=h1;simp only[rs,fa_t0,fa_t4',tk_k ho 0 rfl,tk_s ho 0 rfl,h5,h1',decide_true,decide_false,g_un,ne_eq,not_true,not_false_eq_true,show ¬(5:Int)=6 by decide,show ¬(5:Int)=0 by decide];exact fin (by simp[Ps.begins,h5,h1])
  have h1':¬t.s=[116,114,117,101]:=h1;by_cases h2:t.s=Ps.fal
  ·have h2':t.s=[102,97,108,115,101]:=h2;simp only[rs,fa_t0,fa_t4',tk_k ho 0 rfl,tk_s ho 0 rfl,h5,h2',decide_true,decide_false,g_un,ne_eq,not_true,not_false_eq_true,show ¬(5:Int)=6 by decide,show ¬(5:Int)=0 by decide,show ¬([102,97,108,115,101]:List UInt8)=[116,114,117,101] by decide];exact fin (by simp[Ps.begins,h5,h2])
  have h2':¬t.s=[102,97,108,115,101]:=h2;simp only[rs,fa_t0,fa_t4',tk_k ho 0 rfl,tk_s ho 0 rfl,h5,decide_eq_false h1',decide_eq_false h2',decide_true,decide_false,g_un,ne_eq,not_true,not_false_eq_true,show ¬(5:Int)=6 by decide,show ¬(5:Int)=0 by decide];exact fin (by simp[Ps.begins,h5,h1,h2];first|exact Iff.rfl|exact decide_eq_decide.2 Iff.rfl)
 ·simp only[rs,fa_t0,fa_t4',tk_k ho 0 rfl,tk_s ho 0 rfl,h6,h0,h5,decide_true,decide_false,g_un,ne_eq,not_true,not_false_eq_true];exact fin (by simp[Ps.begins,h6,h5,h0])
theorem pfirst_ret (t:Lx.Tok)(w:World)(h0:t.k≠0):Ret prog 179 #[tokV t] w (fun v w'=>v=.bool (Ps.begins t)∧Below w.heap.size w w'):=by
 refine ret_of fun K hK=>S_parse_begins_ok ?_;unfold S_parse_begins;refine o_tkb t (Own.start w) fun b w1 ho=>?_;have fin:∀{q:Bool},q=Ps.begins t→K (.returned (.bool q)) w1:=fun e=>hK _ _ ⟨by rw[e],ho.done⟩;by_cases h6:t.k=6
 ·by_cases h1:t.s=[91]
  ·simp only[rs,fa_t0,fa_t4',tk_k ho 0 rfl,tk_s ho 0 rfl,h6,h1,decide_true,g_un,show ¬(6:Int)=5 by decide,decide_false];exact fin (by simp[Ps.begins,h6,h1])
  ·simp only[rs,fa_t0,fa_t4',tk_k ho 0 rfl,tk_s ho 0 rfl,h6,decide_eq_false h1,decide_true,g_un,show ¬(6:Int)=5 by decide,decide_false];exact fin (by simp[Ps.begins,h6,h1])
 by_cases h5:t.k=5
 ·by_cases h1:t.s=Ps.tru
  ·have h1':t.s=[116,114,117,101]:=h1;simp only[rs,fa_t0,fa_t4',tk_k ho 0 rfl,tk_s ho 0 rfl,h5,h1',decide_true,decide_false,g_un];exact fin (by simp[Ps.begins,h5,h1])
  have h1':¬t.s=[116,114,117,101]:=h1;by_cases h2:t.s=Ps.fal
  ·have h2':t.s=[102,97,108,115,101]:=h2;simp only[rs,fa_t0,fa_t4',tk_k ho 0 rfl,tk_s ho 0 rfl,h5,h2',decide_true,decide_false,g_un,show ¬([102,97,108,115,101]:List UInt8)=[116,114,117,101] by decide];exact fin (by simp[Ps.begins,h5,h2])
  have h2':¬t.s=[102,97,108,115,101]:=h2;simp only[rs,fa_t0,fa_t4',tk_k ho 0 rfl,tk_s ho 0 rfl,h5,decide_eq_false h1',decide_eq_false h2',decide_true,decide_false,g_un];exact fin (by simp[Ps.begins,h5,h1,h2];first|exact Iff.rfl|exact decide_eq_decide.2 Iff.rfl)
 ·simp only[rs,fa_t0,fa_t4',tk_k ho 0 rfl,tk_s ho 0 rfl,h6,h5,decide_true,decide_false,g_un];exact fin (by simp[Ps.begins,h6,h5,h0])
theorem pword_ret (t:Lx.Tok)(k:Int)(s:List UInt8)(w:World):Ret prog 226 #[tokV t,.int .i64 k,.string ⟨s.toArray⟩] w (fun v w'=>v=.bool (decide (t.k=k)&&decide (t.s=s))∧Below w.heap.size w w'):=by
 refine ret_of fun K hK=>S_parse_word_ok ?_;unfold S_parse_word;refine o_tkb t (Own.start w) fun b w1 ho=>?_;by_cases h:t.k=k
 ·simp only[rs,fa_t0,fa_t4',tk_k ho 0 rfl,tk_s ho 0 rfl,decide_eq_true h,g_un];exact hK _ _ ⟨by rw[decide_eq_true h,Bool.true_and],ho.done⟩
 ·simp only[rs,fa_t0,fa_t4',tk_k ho 0 rfl,tk_s ho 0 rfl,decide_eq_false h,g_un];exact hK _ _ ⟨by rw[decide_eq_false h,Bool.false_and],ho.done⟩
theorem rtwo_ret (s:List UInt8)(t:Lx.Tok)(w:World)(hs:s.length≤1099511627776):Ret prog 73 #[.string ⟨s.toArray⟩,tokV t] w
  (fun v w'=>(∃g e,v=.tuple #[.int .i64 g,.int .i64 e,.bool (Ps.ref s t).isSome]∧∀p,Ps.ref s t=some p→p=(g,e))∧Below w.heap.size w w'):=by
 refine ret_of fun K hK=>S_foliantref06_ref_ok ?_;unfold S_foliantref06_ref;refine o_tkb t (Own.start w) fun b w1 ho=>?_;have no:∀{W:World} {L:List Ent} (g e:Int),Own w W L→Ps.ref s t=none→K (.returned (.tuple #[.int .i64 g,.int .i64 e,.bool false])) W:=fun g e ho h=>
  hK _ _ ⟨⟨g,e,by rw[h];rfl,fun p hp=>by rw[h] at hp;cases hp⟩,ho.done⟩
 by_cases h1:t.n < 1∨8191 < t.n
 ·have hr:Ps.ref s t=none:=by rw[Ps.ref,if_pos h1]
  by_cases h2:t.n < 1
  ·simp only[rs,fa_t3,tk_n ho 0 rfl,decide_eq_true h2,g_un];exact no 0 0 ho hr
  ·have h3:8191 < t.n:=by omega
   simp only[rs,fa_t3,tk_n ho 0 rfl,decide_eq_false h2,decide_eq_true h3,g_un];exact no 0 0 ho hr
 have h2:¬t.n < 1:=by omega
 have h3:¬8191 < t.n:=by omega
 simp only[rs,fa_t3,fa_t2,tk_n ho 0 rfl,tk_t ho 0 rfl,decide_eq_false h2,decide_eq_false h3,g_un];refine tk_new ho (rnext_ret s t.t w1 hs) fun b2 w2 ho=>?_;by_cases h4:(Lx.next s t.t).2≠0∨(Lx.next s t.t).1.k≠1∨(Lx.next s t.t).1.n < 0∨65535 < (Lx.next s t.t).1.n
 ·have hr:Ps.ref s t=none:=by rw[Ps.ref,if_neg h1,if_pos h4]
  simp only[rs];by_cases q1:(Lx.next s t.t).2=0
  ·by_cases q2:(Lx.next s t.t).1.k=1
   ·by_cases q3:(Lx.next s t.t).1.n < 0
    ·simp only[rs,fa_t0,fa_t3,tk_k ho 0 rfl,tk_n ho 0 rfl,q1,q2,q3,ne_eq,not_true,decide_true,decide_false,g_un];exact no 0 0 ho hr
    ·have q4:65535 < (Lx.next s t.t).1.n:=by
      rcases h4 with h|h|h|h
      ·exact absurd q1 h
      ·exact absurd q2 h
      ·exact absurd h q3
      ·exact h
     simp only[rs,fa_t0,fa_t3,tk_k ho 0 rfl,tk_n ho 0 rfl,q1,q2,q3,q4,ne_eq,not_true,decide_true,decide_false,g_un];exact no 0 0 ho hr
   ·simp only[rs,fa_t0,fa_t3,tk_k ho 0 rfl,tk_n ho 0 rfl,q1,q2,ne_eq,not_true,not_false_eq_true,decide_true,decide_false,g_un];exact no 0 0 ho hr
  ·simp only[rs,fa_t0,fa_t3,tk_k ho 0 rfl,tk_n ho 0 rfl,q1,ne_eq,not_true,not_false_eq_true,decide_true,decide_false,g_un];exact no 0 0 ho hr
 have q:(Lx.next s t.t).2=0∧(Lx.next s t.t).1.k=1∧¬(Lx.next s t.t).1.n < 0∧¬65535 < (Lx.next s t.t).1.n:=by
  refine⟨?_,?_,?_,?_⟩
  ·exact Classical.not_not.1 fun h=>h4 (.inl h)
  ·exact Classical.not_not.1 fun h=>h4 (.inr (.inl h))
  ·exact fun h=>h4 (.inr (.inr (.inl h)))
  ·exact fun h=>h4 (.inr (.inr (.inr h)))
 obtain⟨q1,q2,q3,q4⟩:=q;simp only[rs,fa_t0,fa_t2,fa_t3,tk_k ho 0 rfl,tk_n ho 0 rfl,tk_t ho 0 rfl,q1,q2,q3,q4,ne_eq,not_true,decide_true,decide_false,g_un];refine tk_new ho (rnext_ret s (Lx.next s t.t).1.t w2 hs) fun b3 w3 ho=>?_;have hr:Ps.ref s t=if (Lx.next s (Lx.next s t.t).1.t).2=0∧(Lx.next s (Lx.next s t.t).1.t).1.k=5∧(Lx.next s (Lx.next s t.t).1.t).1.s=[82] then some ((Lx.next s t.t).1.n,(Lx.next s (Lx.next s t.t).1.t).1.t) else none:=by
  rw[Ps.ref,if_neg h1,if_neg h4]
 generalize Lx.next s (Lx.next s t.t).1.t=x at *
 refine quiet ?_;refine q_do _ (fun _=>run_fa ft3) (q_at _ (fun _ hb=>tkr_n (ho.grow hb) 1 rfl) (q_do _ (fun _=>run_fa ft2) (q_at _ (fun _ hb=>tkr_t (ho.grow hb) 0 rfl) (q_eq ?_))));have yes:x.2=0∧x.1.k=5∧x.1.s=[82]→∀{W:World},Below w3.heap.size w3 W→K (.returned (.tuple #[.int .i64 (Lx.next s t.t).1.n,.int .i64 x.1.t,.bool true])) W:=by
  intro h W hb;rw[if_pos h] at hr;exact hK _ _ ⟨⟨_,_,by rw[hr];rfl,fun p hp=>by rw[hr] at hp;cases hp;rfl⟩,(ho.grow hb).done⟩
 have non:¬(x.2=0∧x.1.k=5∧x.1.s=[82])→∀{W:World},Below w3.heap.size w3 W→K (.returned (.tuple #[.int .i64 (Lx.next s t.t).1.n,.int .i64 x.1.t,.bool false])) W:=by
  intro h W hb;rw[if_neg h] at hr;exact no _ _ (ho.grow hb) hr
 by_cases e1:x.2=0
 case neg=>
  simp only[decide_eq_false e1,gq,gq_un];refine q_pf ?_;simp only[gq,gq_un];refine q_pf fun W hb=>non (fun h=>e1 h.1) hb
 simp only[decide_eq_true e1,gq,gq_un];refine q_do _ (fun _=>run_fa ft0) (q_at _ (fun _ hb=>tkr_k (ho.grow hb) 0 rfl) (q_eq (q_pt ?_)));by_cases e2:x.1.k=5
 case neg=>
  simp only[decide_eq_false e2,gq,gq_un];exact q_pf fun W hb=>non (fun h=>e2 h.2.1) hb
 simp only[decide_eq_true e2,gq,gq_un];refine q_do _ (fun _=>run_fa ft4) (q_at _ (fun _ hb=>tkr_s (ho.grow hb) 0 rfl) (q_seq (q_pt ?_)));intro W hb;by_cases e3:x.1.s=[82]
 ·rw[decide_eq_true e3];exact yes ⟨e1,e2,e3⟩ hb
 ·rw[decide_eq_false e3];exact non (fun h=>e3 h.2.2) hb
end
section
open Eng Go.RowKit
section
variable {w:World}{S:Nat→Prop}{w0:World}{L:List Ent}{PK:PKT}{K:VWP}
theorem o_obs1 (o:Ob){vk vc:Value}(hk:vk.oneCell'=true)(hc:vc.oneCell'=true)(ho:OwnS S w0 w L)(k:∀b w',OwnS S w0 w' (obE b o vk vc::L)→K (.slice (some ⟨b,0,none⟩) 1 1) w'):DoX prog (mBuildS 25 1 #[(0,obV o vk vc)]) w PK K:=by
 cases vk<;>first|(cases hk;done)|skip
 all_goals cases vc<;>first|(cases hc;done)|exact o_new (fun b=>.slice (some ⟨b,0,none⟩) 1 1) (obC o _ _) 27 (fun _=>by kernel_rfl) ho k
theorem o_strb1 (s:List UInt8)(ho:OwnS S w0 w L)(k:∀b w',OwnS S w0 w' (.cells b [.string ⟨s.toArray⟩] 9::L)→K (.slice (some ⟨b,0,none⟩) 1 1) w'):DoX prog (mBuildS 24 1 #[(0,.string ⟨s.toArray⟩)]) w PK K:=
 o_new (fun b=>.slice (some ⟨b,0,none⟩) 1 1) [.string ⟨s.toArray⟩] 9 (fun _=>by kernel_rfl) ho k
end
theorem strsV_take (l:List (List UInt8))(i:Nat):(strsV l).take (i*1)=strsV (l.take i):=by rw[Nat.mul_one];simp[strsV]
theorem strsV_drop (l:List (List UInt8))(i:Nat):(strsV l).drop (i*1)=strsV (l.drop i):=by rw[Nat.mul_one];simp[strsV]
theorem strsV_app (a b:List (List UInt8)):strsV (a++b)=strsV a++strsV b:=by simp[strsV]
theorem ovs_take {A:Nat→Prop}{w:World}:∀{os:List Ob} {cs:List Value} (i:Nat),OVs A w cs os→OVs A w (cs.take (i*6)) (os.take i)
|_,_,0,_=>by rw[Nat.zero_mul,List.take_zero,List.take_zero];exact OVs.nil
|[],cs,i+1,h=>by rw[OVs] at h;subst h;rw[List.take_nil,List.take_nil];exact OVs.nil
|o::os,cs,i+1,h=>by
  rw[OVs] at h;obtain⟨a,rest,rfl,hl,h1,h2⟩:=h;have e:(a++rest).take ((i+1)*6)=a++rest.take (i*6):=by
   rw[List.take_append,List.take_of_length_le (by omega)]
   congr 2
   omega
  rw[e,List.take_succ_cons,OVs];exact⟨a,_,rfl,hl,h1,ovs_take i h2⟩
theorem ovs_drop {A:Nat→Prop}{w:World}:∀{os:List Ob} {cs:List Value} (i:Nat),OVs A w cs os→OVs A w (cs.drop (i*6)) (os.drop i)
|_,_,0,h=>by rw[Nat.zero_mul,List.drop_zero,List.drop_zero];exact h
|[],cs,i+1,h=>by rw[OVs] at h;subst h;rw[List.drop_nil,List.drop_nil];exact OVs.nil
|o::os,cs,i+1,h=>by
  rw[OVs] at h;obtain⟨a,rest,rfl,hl,h1,h2⟩:=h;have e:(a++rest).drop ((i+1)*6)=rest.drop (i*6):=by
   rw[List.drop_append,List.drop_eq_nil_of_le (by omega),List.nil_append]
   congr 1
   omega
  rw[e,List.drop_succ_cons];exact ovs_drop i h2
end
section
open Eng Go.RowKit
theorem SlA.form {A:Nat→Prop}{w:World}{v:Value}{sz n:Nat}{cs:List Value}(h:SlA A w v sz n cs):∃a cap,v=.slice a n cap∧n≤cap:=by
 obtain⟨⟨_,a,cap,rfl,_⟩,_,h3⟩:=h;exact⟨a,cap,rfl,h3 a n cap rfl⟩
end
section
open Eng Go.RowKit
theorem elStr:elB prog 9 1 16=true:=by kernel_rfl
theorem elOb:elB prog 27 6 88=true:=by kernel_rfl
theorem szStr:(Tryz.prog.info? 9).map (·.size)=some 1:=by kernel_rfl
section
variable {w:World}{S:Nat→Prop}{w0:World}{L:List Ent}{PK:PKT}{K:VWP}
theorem o_apS (i:Nat){v v2:Value}{n m:Nat}{xs news:List Value}{cb:Array Bool}(ho:OwnS S w0 w L)(hi:L[i]?=some (.urow 9 1 v n xs))(hs:Sl w v2 1 m news)(h1:∀u∈news,u.oneCell'=true)(hb:n+m≤1000000000000)
  (k:∀v' w',OwnS S w0 w' (L.set i (.urow 9 1 v' (n+m) (xs++news)))→K v' w'):DoX prog (mB .append #[24,24] 24 cb #[v,v2]) w PK K:=
 o_appendU i Tryz.underlying24 elStr (by decide) ho hi hs h1 (by omega) (by omega) k
theorem o_apO (i:Nat){v v2:Value}{n m:Nat}{xs news:List Value}{cb:Array Bool}(ho:OwnS S w0 w L)(hi:L[i]?=some (.urow 27 6 v n xs))(hs:Sl w v2 6 m news)(h1:∀u∈news,u.oneCell'=true)(hb:n+m≤1000000000000)
  (k:∀v' w',OwnS S w0 w' (L.set i (.urow 27 6 v' (n+m) (xs++news)))→K v' w'):DoX prog (mB .append #[25,25] 25 cb #[v,v2]) w PK K:=
 o_appendU i Tryz.underlying25 elOb (by decide) ho hi hs h1 (by omega) (by omega) k
end
end
section
namespace Eng
open Go.RowKit
def strK (k:List UInt8):Value:=.string ⟨k.toArray⟩
def MapIs (w:World)(b:Nat)(al:List (List UInt8×Value)):Prop:=∃es clock,w.heap[b]?=some (.map es clock)∧es.toList.map (fun e=>(e.key,e.val))=al.map fun p=>(strK p.1,p.2)
def lookA (al:List (List UInt8×Value))(k:List UInt8):Option Value:=(al.find? fun p=>decide (p.1=k)).map (·.2)
theorem findNow_str (k:List UInt8):∀(es:List MapEntry) (al:List (List UInt8×Value)) (i:Nat),es.map (fun e=>(e.key,e.val))=al.map (fun p=>(strK p.1,p.2)) →
  ∃r,Instr.findNow .string (strK k) es i=some r∧r.map (·.2)=lookA al k
|[],[],i,_=>⟨none,rfl,rfl⟩
|e::es,p::al,i,h=>by
  simp only[List.map_cons,List.cons.injEq,Prod.mk.injEq] at h;obtain⟨⟨h1,h2⟩,h3⟩:=h;have hs:Instr.sameNow .string (strK k) e.key=some (decide (k=p.1)):=by
   rw[h1];show some ((⟨k.toArray⟩:ByteArray)==⟨p.1.toArray⟩)=_
   congr 1
   show (k.toArray==p.1.toArray)=_;by_cases hk:k=p.1<;>simp[hk]
  by_cases hk:k=p.1
  ·refine⟨some (i,e.val),?_,?_⟩
   ·rw[Instr.findNow,hs];simp[hk]
   ·simp[lookA,hk,h2]
  ·obtain⟨r,hr1,hr2⟩:=findNow_str k es al (i+1) h3;refine⟨r,?_,?_⟩
   ·rw[Instr.findNow,hs];simp[hk,hr1]
   ·have hk':¬p.1=k:=fun e=>hk e.symm;rw[hr2];simp[lookA,hk']
|[],_::_,_,h=>by simp at h
|_::_,[],_,h=>by simp at h
section
variable {S:Nat→Prop}{P:Program}{w w0:World}{L:List Ent}{PK:PKT}{K:VWP}
theorem run_checkStr {k:TypeId}{e:Bool}(hk:P.underlying k=some .string)(x:List UInt8):(Instr.checkKey e 10000 k (strK x)).run P w=.ok () w:=by
 show (Instr.checkKey e (9999+1) k (strK x)).run P w=_;rw[Instr.checkKey];simp[run_underlying hk,strK]
theorem run_findStr {k:TypeId}(hk:P.underlying k=some .string)(x:List UInt8){es:List MapEntry}{al:List (List UInt8×Value)}(h:es.map (fun e=>(e.key,e.val))=al.map (fun p=>(strK p.1,p.2))) :
  ∃r,(Instr.findKey k (strK x) es).run P w=.ok r w∧r.map (·.2)=lookA al x:=by
 obtain⟨r,h1,h2⟩:=findNow_str x es al 0 h;refine⟨r,?_,h2⟩;simp[Instr.findKey,run_underlying hk,h1]
theorem run_look {T k e:TypeId}{ok:Bool}{b:Nat}{al:List (List UInt8×Value)}{z:Value}(ht:P.underlying T=some (.map k e))(hk:P.underlying k=some .string)(hz:(P.info? e).bind (·.zero)=some z)(h:MapIs w b al)(x:List UInt8) :
  (mLook T (.map (some b)) (strK x) ok).run P w=.ok (.value (if ok then .tuple #[(lookA al x).getD z,.bool (lookA al x).isSome] else (lookA al x).getD z)) w:=by
 obtain⟨es,clock,h1,h2⟩:=h;obtain⟨r,r1,r2⟩:=run_findStr (P:=P) (w:=w) hk x h2;have hz':(zeroValue e).run P w=.ok z w:=by
  obtain⟨i,hi,hzi⟩:=Option.bind_eq_some_iff.1 hz;simp[zeroValue,typeInfo,hi,hzi]
 refine mv_run ?_;rw[←r2];cases r with
|none=>simp[Instr.lookup,run_underlying ht,getObj,Sem.run,h1,run_checkStr hk x,r1,hz']
|some p=>
  obtain⟨i,v⟩:=p;simp[Instr.lookup,run_underlying ht,getObj,Sem.run,h1,run_checkStr hk x,r1]
end
theorem lookA_none {al:List (List UInt8×Value)}{k:List UInt8}:lookA al k=none↔k ∉ al.map (·.1):=by
 unfold lookA;rw[Option.map_eq_none_iff,List.find?_eq_none];exact⟨fun h hm=>by obtain⟨p,hp,rfl⟩:=List.mem_map.1 hm;simpa using h p hp,fun h p hp hc=>h (List.mem_map.2 ⟨p,hp,by simpa using hc⟩)⟩
end Eng
end
section
open Eng Go.RowKit
theorem Sl.cellAt {w:World}{b off cap sz n:Nat}{cs:List Value}(h:Sl w (.slice (some ⟨b,off,none⟩) n cap) sz n cs):∀j u,cs[j]?=some u→w.cell? ⟨b,off+j,none⟩=some u:=by
 obtain⟨_,a,cap',e,_,h2⟩:=h
 injection e with e1 _ _
 exact fun j u hj=>(h2 _ e1.symm).2 j u hj
theorem m_ob7 {w:World}{PK:PKT}{K:VWP}:DoX prog (mBuild 27 #[(0,(.int .i64 7))]) w PK K=K (obV (.mk 7 0 0 [] [] []) nilS nilS) w:=do_eq (by kernel_rfl)
end
end Go.Proofs.YtjloddgofmdmgaaGreatDoor


namespace Go.Proofs.YtjloddgofmdmgaaGreatDoor
section
open Eng Go.RowKit
theorem obV_inj {o p:Ob}{vk vc xk xc:Value}(h:obV o vk vc=obV p xk xc):vk=xk∧vc=xc:=by
 have:(obC o vk vc).toArray=(obC p xk xc).toArray:=by injection h
 have:obC o vk vc=obC p xk xc:=by simpa using congrArg Array.toList this
 simp only[obC,List.cons.injEq,and_true] at this;exact⟨this.2.2.2.2.1,this.2.2.2.2.2⟩
theorem OV.slices {A:Nat→Prop}{w:World}{o:Ob}{vk vc:Value}(h:OV A w (obV o vk vc) o):∃cs,ObAt A w o vk vc cs:=by
 obtain⟨xk,xc,cs,e,ha⟩:=h.open;obtain⟨rfl,rfl⟩:=obV_inj e;exact⟨cs,ha⟩
theorem OV.oneK {A:Nat→Prop}{w:World}{o:Ob}{vk vc:Value}(h:OV A w (obV o vk vc) o):vk.oneCell'=true:=by obtain⟨cs,ha⟩:=h.slices;exact ha.keys.one
theorem OV.oneC {A:Nat→Prop}{w:World}{o:Ob}{vk vc:Value}(h:OV A w (obV o vk vc) o):vc.oneCell'=true:=by obtain⟨cs,ha⟩:=h.slices;exact ha.kids.one
section
variable {w:World}{PK:PKT}{K:VWP}{S:Nat→Prop}{w0:World}{L:List Ent}
end
end
end Go.Proofs.YtjloddgofmdmgaaGreatDoor










namespace Go.Proofs.YtjloddgofmdmgaaGreatDoor
section
open Eng Go.RowKit
namespace Eng
def Ent.two (e f:Ent):Ent:=⟨fun k=>e.blk k∨f.blk k,fun w=>e.is w∧f.is w∧∀k,e.blk k→¬f.blk k,
 fun h k=>⟨e.keep h.1 fun b hb=>k b (.inl hb),f.keep h.2.1 fun b hb=>k b (.inr hb),h.2.2⟩,fun h k hk=>hk.elim (e.lt h.1 k) (f.lt h.2.1 k)⟩
section
variable {S:Nat→Prop}{w w0:World}{L:List Ent}
theorem OwnS.split {e f:Ent}(ho:OwnS S w0 w (.two e f::L)):OwnS S w0 w (e::f::L):=by
 obtain⟨⟨he,hf,hd⟩,hb⟩:=ho.all (.two e f) (by simp);obtain⟨a1,a2⟩:=List.pairwise_cons.1 ho.apart;refine⟨ho.grew,fun x hx=>?_,List.pairwise_cons.2 ⟨fun x hx k hk=>?_,List.pairwise_cons.2 ⟨fun x hx k hk=>a1 x hx k (.inr hk),a2⟩⟩⟩
 ·rcases List.mem_cons.1 hx with rfl|hx
  ·exact⟨he,fun k hk=>hb k (.inl hk)⟩
  rcases List.mem_cons.1 hx with rfl|hx
  ·exact⟨hf,fun k hk=>hb k (.inr hk)⟩
  ·exact ho.all x (List.mem_cons_of_mem _ hx)
 ·rcases List.mem_cons.1 hx with rfl|hx
  ·exact hd k hk
  ·exact a1 x hx k (.inl hk)
end
end Eng
section
variable {P:Program}{S:World→Prop}{K:Value→Prop}
theorem hd_do {m:Sem Next}(v:Value)(h:∀w,S w→m.run P w=.ok (.value v) w)(k:K v):HDo P S m K:=⟨v,h,k⟩
theorem hd_pure {m:Sem Next}(v:Value)(h:∀w,m.run P w=.ok (.value v) w)(k:K v):HDo P S m K:=⟨v,fun w _=>h w,k⟩
end
section
variable {w:World}{PK:PKT}{K:VWP}{S:Nat→Prop}{w0:World}{L:List Ent}
end
end
section
namespace Eng
open Go.RowKit
section
variable {S:Nat→Prop}{P:Program}{w w0:World}{L:List Ent}{PK:PKT}{K:VWP}
theorem OwnS.pair {e f:Ent}(ho:OwnS S w0 w (e::f::L)):OwnS S w0 w (.two e f::L):=by
 obtain⟨a1,a2⟩:=List.pairwise_cons.1 ho.apart;obtain⟨a3,a4⟩:=List.pairwise_cons.1 a2;have h1:=ho.all e (by simp);have h2:=ho.all f (by simp);refine⟨ho.grew,fun x hx=>?_,List.pairwise_cons.2 ⟨fun x hx k hk=>?_,a4⟩⟩
 ·rcases List.mem_cons.1 hx with rfl|hx
  ·exact⟨⟨h1.1,h2.1,a1 f (by simp)⟩,fun k hk=>hk.elim (h1.2 k) (h2.2 k)⟩
  ·exact ho.all x (by simp[hx])
 ·rcases hk with hk|hk
  ·exact a1 x (by simp[hx]) k hk
  ·exact a3 x hx k hk
structure Lent (P:Program) (f:Nat) (args:Array Value) (e:Ent) (M:Mem) (w:World) (ok:Prop) (e':Ent) (R:Value→Mem→Prop) (c:List PanicEntry):Prop where
 ret:ok→Ret P f args w (fun v w'=>∃N,M.le N∧R v N∧Turn (.two e (.mem M)) (.two e' (.mem N)) w w')
 pan:¬ok→Pan P f args w (fun c' w'=>c'=c∧∃e2,Turn (.two e (.mem M)) (.two e2 (.mem M)) w w')
theorem lent_of {f:Nat}{args:Array Value}{e e':Ent}{M:Mem}{ok:Prop}{R:Value→Mem→Prop}{c:List PanicEntry}
  (h:∀K:Ending→World→Prop,OwnS (Ent.two e (.mem M)).blk w w [e,.mem M] →
   (ok→∀(v:Value) (N:Mem) (w':World) (L:List Ent),OwnS (Ent.two e (.mem M)).blk w w' (e'::.mem N::L)→M.le N→R v N→K (.returned v) w') →
   (¬ok→∀(e2:Ent) (N:Mem) (w':World) (L:List Ent),OwnS (Ent.two e (.mem M)).blk w w' (e2::.mem N::L)→M.le N→K (.panicked c) w')→Calls P f args w K)
  (h0:(Ent.two e (.mem M)).is w):Lent P f args e M w ok e' R c:=by
 have ho:OwnS (Ent.two e (.mem M)).blk w w [e,.mem M]:=(OwnS.lend h0).split;constructor
 ·intro hk;refine ret_of fun K hK=>h K ho (fun _ v N w' L hw hle hr=>hK _ _ ⟨N,hle,hr,OwnS.back hw.pair⟩) fun hn=>absurd hk hn
 ·intro hn;refine pan_of fun K hK=>h K ho (fun hk=>absurd hk hn) fun _ e2 N w' L hw hle=>?_;refine hK _ _ ⟨rfl,e2,?_⟩;have hb:=OwnS.back hw.pair;refine⟨hb.grew,?_,fun k hk=>hb.new k (hk.elim .inl fun hm=>.inr (hle.A k hm))⟩;obtain⟨i1,i2,i3⟩:=hb.is;exact⟨i1,Mem.has_of hle i2,fun k hk hm=>i3 k hk (hle.A k hm)⟩
end
end Eng
end
section
open Eng Go.RowKit
theorem ins_take {α:Type}{l:List α}{i:Nat}(g:α)(hi:i≤l.length):(l.take i++g::l.drop i).take i=l.take i:=by rw[List.take_left' (by simp;omega)]
theorem ins_drop {α:Type}{l:List α}{i:Nat}(g:α)(hi:i≤l.length):(l.take i++g::l.drop i).drop (i+1)=l.drop i:=by
 rw[show l.take i++g::l.drop i=(l.take i++[g])++l.drop i by simp,List.drop_left' (by simp;omega)]
theorem ins_end {α:Type}{l:List α}{i:Nat}(g x:α)(hi:i≤l.length):(l.take i++g::l.drop i).take i++x::(l.take i++g::l.drop i).drop (i+1)=l.take i++x::l.drop i:=by rw[ins_take g hi,ins_drop g hi]
theorem ins_shift {α:Type}{l:List α}{i:Nat}(g:α)(hi:i+1≤l.length):(l.take (i+1)++g::l.drop (i+1)).take (i+1)++l[i]::(l.take (i+1)++g::l.drop (i+1)).drop (i+1+1)=l.take i++l[i]::l.drop i:=by
 rw[ins_end g _ hi,List.take_succ_eq_append_getElem (by omega),List.append_assoc,List.singleton_append,(List.drop_eq_getElem_cons (show i < l.length by omega)).symm]
theorem ins_get {α:Type}{l:List α}{i:Nat}(g:α)(hi:i+1≤l.length)(h:i < (l.take (i+1)++g::l.drop (i+1)).length):(l.take (i+1)++g::l.drop (i+1))[i]=l[i]:=by
 rw[List.getElem_append_left (by simp;omega),List.getElem_take]
theorem ovs_set {A:Nat→Prop}{w:World}{os:List Ob}{cs:List Value}{x:Ob}{vk vc:Value}(h:OVs A w cs os)(hx:OV A w (obV x vk vc) x)(i:Nat):OVs A w (cs.take (i*6)++obC x vk vc++cs.drop (i*6+6)) (os.take i++x::os.drop (i+1)):=by
 have:=ovs_app (ovs_take i h) (ovs_app (ovs_1 hx) (ovs_drop (i+1) h));rw[show (i+1)*6=i*6+6 by omega,←List.append_assoc] at this;exact this
abbrev keyE (v:Value)(ks:List (List UInt8)):Ent:=.urow 9 1 v ks.length (strsV ks)
abbrev kidE (v:Value)(n:Nat)(cs:List Value):Ent:=.urow 27 6 v n cs
section
variable {w:World}{S:Nat→Prop}{w0:World}{L:List Ent}{PK PK2:PKT}{K:VWP}
theorem keyE_set {ks:List (List UInt8)}{k:List UInt8}{i:Nat}(h:i < ks.length):strsV (ks.take i++k::ks.drop (i+1))=(strsV ks).take (i*1)++[.string ⟨k.toArray⟩]++(strsV ks).drop (i*1+1):=by
 rw[show ks.take i++k::ks.drop (i+1)=ks.take i++[k]++ks.drop (i+1) by simp,strsV_app,strsV_app,strsV_take]
 congr 1
 rw[show i*1+1=(i+1)*1 by omega,strsV_drop]
theorem key_st (i:Nat){g n cap:Nat}{ks:List (List UInt8)}(ho:OwnS S w0 w L)(hi:L[i]?=some (keyE (.slice (some ⟨g,0,none⟩) n cap) ks)){j:Nat}(hj:j < ks.length){k:List UInt8}
  (h:∀w',OwnS S w0 w' (L.set i (keyE (.slice (some ⟨g,0,none⟩) n cap) (ks.take j++k::ks.drop (j+1))))→K undef w') :
  DoX prog (mStore 9 (.pointer (some ⟨g,j,none⟩)) (.string ⟨k.toArray⟩)) w PK K:=by
 obtain⟨g',cap',e⟩:=urow_open (ho.at_ i hi) (by omega);cases e;have:=o_storeU (PK:=PK) (K:=K) (T:=9) i ho hi (off:=j*1) (u:=.string ⟨k.toArray⟩) (new:=[.string ⟨k.toArray⟩]) rfl szStr (by simp[Value.oneCell']) (by show j*1+1≤_;omega) fun w' ho=>h w' (by
  have el:(ks.take j++k::ks.drop (j+1)).length=ks.length:=by simp;omega
  rw[keyE,el,keyE_set hj];exact ho)
 rwa [Nat.mul_one] at this
theorem kid_st (i:Nat){g n cap m:Nat}{cs:List Value}(ho:OwnS S w0 w L)(hi:L[i]?=some (kidE (.slice (some ⟨g,0,none⟩) m cap) n cs)){j:Nat}(hj:j < n){x:Ob}{vk vc:Value}(hk:vk.oneCell'=true)(hc:vc.oneCell'=true)
  (h:∀w',OwnS S w0 w' (L.set i (kidE (.slice (some ⟨g,0,none⟩) m cap) n (cs.take (j*6)++obC x vk vc++cs.drop (j*6+6))))→K undef w') :
  DoX prog (mStore 27 (.pointer (some ⟨g,j*6,none⟩)) (obV x vk vc)) w PK K:=by
 obtain⟨g',cap',e⟩:=urow_open (ho.at_ i hi) (by omega);cases e;exact o_storeU i ho hi (u:=obV x vk vc) (new:=obC x vk vc) rfl szOb (obC_one _ hk hc) (by show j*6+6≤_;omega) fun w' ho=>h w' ho
theorem key_put (i:Nat){v:Value}{ks:List (List UInt8)}(ho:OwnS S w0 w L)(hi:L[i]?=some (keyE v ks)){j:Nat}(hj:j < ks.length){k:List UInt8}
  (h:∀w',OwnS S w0 w' (L.set i (keyE v (ks.take j++k::ks.drop (j+1))))→K undef w') :
  DoX prog (mIA 24 v (.int .i64 (j:Int))) w PK fun t w=>DoX prog (mStore 9 t (.string ⟨k.toArray⟩)) w PK2 K:=by
 obtain⟨g,cap,rfl⟩:=urow_open (ho.at_ i hi) (by omega);refine do_eq (run_ia Tryz.underlying24 szStr (by omega) (by omega)) |>.mpr ?_;rw[Int.toNat_natCast,Nat.zero_add];refine o_storeU i ho hi (u:=.string ⟨k.toArray⟩) (new:=[.string ⟨k.toArray⟩]) rfl szStr (by simp[Value.oneCell']) (by show j*1+1≤_;omega) fun w' ho=>h w' ?_;have el:(ks.take j++k::ks.drop (j+1)).length=ks.length:=by simp;omega
 rw[keyE,el,keyE_set hj];exact ho
theorem kid_put (i:Nat){v:Value}{n:Nat}{cs:List Value}(ho:OwnS S w0 w L)(hi:L[i]?=some (kidE v n cs)){j:Nat}(hj:j < n){x:Ob}{vk vc:Value}(hk:vk.oneCell'=true)(hc:vc.oneCell'=true)
  (h:∀w',OwnS S w0 w' (L.set i (kidE v n (cs.take (j*6)++obC x vk vc++cs.drop (j*6+6))))→K undef w') :
  DoX prog (mIA 25 v (.int .i64 (j:Int))) w PK fun t w=>DoX prog (mStore 27 t (obV x vk vc)) w PK2 K:=by
 obtain⟨g,cap,rfl⟩:=urow_open (ho.at_ i hi) (by omega);refine do_eq (run_ia Tryz.underlying25 szOb (by omega) (by omega)) |>.mpr ?_;rw[Int.toNat_natCast,Nat.zero_add];refine o_storeU i ho hi (u:=obV x vk vc) (new:=obC x vk vc) rfl szOb (obC_one _ hk hc) (by show j*6+6≤_;omega) fun w' ho=>h w' ho
theorem key_row (i:Nat){v:Value}{ks:List (List UInt8)}(ho:OwnS S w0 w L)(hi:L[i]?=some (keyE v ks)){j:Nat}(hj:j < ks.length):∃g cap,v=.slice (some ⟨g,0,none⟩) ks.length cap ∧
  (∀w,(mIA 24 v (.int .i64 (j:Int))).run prog w=.ok (.value (.pointer (some ⟨g,j,none⟩))) w)∧∀w',(keyE v ks).is w'→(mLoad 9 (.pointer (some ⟨g,j,none⟩))).run prog w'=.ok (.value (.string ⟨ks[j].toArray⟩)) w':=by
 obtain⟨g,cap,rfl⟩:=urow_open (ho.at_ i hi) (by omega);refine⟨g,cap,rfl,fun w=>?_,fun w' h=>?_⟩
 ·refine (run_ia Tryz.underlying24 szStr (by omega) (by omega)).trans ?_;rw[Int.toNat_natCast,Nat.mul_one,Nat.zero_add]
 ·obtain⟨b,off,cap',e,hc⟩:=sl_open (Sl.urow h) (by omega);cases e;exact run_load_cell nStr5 (by have:=hc j _ (strsV_get hj);rwa [Nat.zero_add] at this)
theorem kid_row (i:Nat){v:Value}{n:Nat}{cs:List Value}{os:List Ob}{A:Nat→Prop}{W:World}(ho:OwnS S w0 w L)(hi:L[i]?=some (kidE v n cs))(hn:os.length=n)(hall:OVs A W cs os){j:Nat}(hj:j < os.length):∃g cap vk vc,v=.slice (some ⟨g,0,none⟩) n cap∧OV A W (obV os[j] vk vc) os[j] ∧
  (∀w,(mIA 25 v (.int .i64 (j:Int))).run prog w=.ok (.value (.pointer (some ⟨g,j*6,none⟩))) w)∧∀w',(kidE v n cs).is w'→(mLoad 27 (.pointer (some ⟨g,j*6,none⟩))).run prog w'=.ok (.value (obV os[j] vk vc)) w':=by
 obtain⟨g,cap,rfl⟩:=urow_open (ho.at_ i hi) (by omega);obtain⟨a,hl,hov,hget⟩:=OVs.get os cs j hj hall;obtain⟨vk,vc,xcs,he,hx⟩:=hov.open;refine⟨g,cap,vk,vc,rfl,hx.ov,fun w=>?_,fun w' h=>?_⟩
 ·refine (run_ia Tryz.underlying25 szOb (by omega) (by omega)).trans ?_;rw[Int.toNat_natCast,Nat.zero_add]
 ·obtain⟨b,off,cap',e,hc⟩:=sl_open (Sl.urow h) (by omega);cases e;rw[←he];refine run_load_at (v:=.agg a.toArray) (AtV.agg aggOb hl fun m u hm=>?_);have:=hc _ _ (hget m u hm)
  rwa [Nat.zero_add] at this
end
theorem rput06_ret (o x:Ob)(vk vc xk xc:Value)(cs:List Value)(key:List UInt8)(A:Nat→Prop)(W w:World)(hlen:o.keys.length=o.kids.length)(hall:OVs A W cs o.kids)(hx:OV A W (obV x xk xc) x)(hb:o.kids.length≤10000000000)
  (hr:Vl.Rise o.keys) (hn:key ∉ o.keys) (h0:(Ent.two (keyE vk o.keys) (kidE vc o.kids.length cs)).is w) :
  Ret prog 129 #[obV o vk vc,.string ⟨key.toArray⟩,obV x xk xc] w (fun v w'=>∃vk' vc' cs',v=obV (Vl.put o key x) vk' vc'∧OVs A W cs' (Vl.put o key x).kids ∧
   Turn (.two (keyE vk o.keys) (kidE vc o.kids.length cs)) (.two (keyE vk' (Vl.put o key x).keys) (kidE vc' (Vl.put o key x).kids.length cs')) w w'):=by
 obtain⟨_,_,e1,hxa⟩:∃a b,(a,b)=(xk,xc)∧xk.oneCell'=true∧xc.oneCell'=true:=by
  obtain⟨a,b,c,e,h⟩:=hx.open
  injection e with e
  have:=congrArg Array.toList e;simp[obC] at this;exact⟨_,_,rfl,by rw[this.1];exact h.keys.one,by rw[this.2];exact h.kids.one⟩
 refine ret_of fun K hK=>S_foliantref06_put_ok ?_;unfold S_foliantref06_put;have ho:OwnS (Ent.two (keyE vk o.keys) (kidE vc o.kids.length cs)).blk w w [keyE vk o.keys,kidE vc o.kids.length cs]:=(OwnS.lend h0).split;generalize hS:(Ent.two (keyE vk o.keys) (kidE vc o.kids.length cs)).blk=S0 at ho;have hvk:=urow_one (ho.at_ 0 rfl);have hvc:=urow_one (ho.at_ 1 rfl);refine o_obb o hvk hvc ho fun b3 w1 ho=>?_;refine o_obb x hxa.1 hxa.2 ho fun b5 w2 ho=>?_;refine o_oba ho fun b6 w3 ho=>?_;rw[fa_o4,ob_keys ho 2 rfl,sl_len Tryz.underlying24 (ho.slU 3 rfl),fa_o4,ob_keys ho 2 rfl];refine o_strb1 key ho fun nb w4 ho=>?_;refine o_apS 4 ho rfl (ho.sl 0 rfl 1 1 1 rfl) (by simp[Value.oneCell']) (by omega) fun vk' w5 ho=>?_;have ho:=ho.tail;have ho:OwnS S0 w w5 [obE b6 ob0 nilS nilS,obE b5 x xk xc,obE b3 o vk vc,.urow 9 1 vk' (o.keys.length+1) (strsV o.keys++[.string ⟨key.toArray⟩]),kidE vc o.kids.length cs]:=ho;have hvk':=urow_one (ho.at_ 3 rfl);rw[fa_o4];refine o_store 2 ho rfl (by kernel_rfl) hvk' (show 0+4 < 6 by omega) fun w6 ho=>?_;have ho:OwnS S0 w w6 [obE b6 ob0 nilS nilS,obE b5 x xk xc,obE b3 o vk' vc,.urow 9 1 vk' (o.keys.length+1) (strsV o.keys++[.string ⟨key.toArray⟩]),kidE vc o.kids.length cs]:=ho;rw[fa_o5,ob_kids ho 2 rfl,ob_v ho 1 rfl];refine o_obs1 x hxa.1 hxa.2 ho fun nb2 w7 ho=>?_;refine o_apO 5 ho rfl (ho.sl 0 rfl 6 1 1 rfl) (obC_one _ hxa.1 hxa.2) (by omega) fun vc' w8 ho=>?_;have ho:=ho.tail;have ho:OwnS S0 w w8 [obE b6 ob0 nilS nilS,obE b5 x xk xc,obE b3 o vk' vc,.urow 9 1 vk' (o.keys.length+1) (strsV o.keys++[.string ⟨key.toArray⟩]),kidE vc' (o.kids.length+1) (cs++obC x xk xc)]:=ho;have hvc':=urow_one (ho.at_ 4 rfl);rw[fa_o5];refine o_store 2 ho rfl (by kernel_rfl) hvc' (show 0+5 < 6 by omega) fun w9 ho=>?_;have ek:strsV o.keys++[.string ⟨key.toArray⟩]=strsV (o.keys.take o.keys.length++key::o.keys.drop o.keys.length):=by simp[strsV,strV]
 have ho:OwnS S0 w w9 [obE b6 ob0 nilS nilS,obE b5 x xk xc,obE b3 o vk' vc',keyE vk' (o.keys.take o.keys.length++key::o.keys.drop o.keys.length),kidE vc' (o.kids.length+1) (cs++obC x xk xc)]:=by
  have el:(o.keys.take o.keys.length++key::o.keys.drop o.keys.length).length=o.keys.length+1:=by simp
  rw[ek] at ho;rw[keyE,el];exact ho
 have hall1:OVs A W (cs++obC x xk xc) (o.kids.take o.keys.length++x::o.kids.drop o.keys.length):=by
  rw[hlen,List.take_length,List.drop_length];exact ovs_app hall (ovs_1 hx)
 clear h0 hall;refine loop (fun vs w'=>∃(i:Nat) (g:List UInt8) (y:Ob) (cs':List Value),vs=[.int .i64 i]∧i≤o.keys.length∧(∀m (h:m < o.keys.length),i≤m→Vl.less key o.keys[m]=true)∧OVs A W cs' (o.kids.take i++y::o.kids.drop i) ∧
   OwnS S0 w w' [obE b6 ob0 nilS nilS,obE b5 x xk xc,obE b3 o vk' vc',keyE vk' (o.keys.take i++g::o.keys.drop i),kidE vc' (o.kids.length+1) cs']) (fun vs _=>n0 vs)
  ⟨o.keys.length,key,x,_,rfl,Nat.le_refl _,fun m h hm=>by omega,hall1,ho⟩ ?_
 clear ho hall1;rintro vs w10 ⟨i,g,y,cs',rfl,hi,hgt,hall,ho⟩ _;simp only[S_foliantref06_put_0,gd];have hkl:(o.keys.take i++g::o.keys.drop i).length=o.keys.length+1:=by simp;omega
 have hcl:(o.kids.take i++y::o.kids.drop i).length=o.kids.length+1:=by simp;omega
 -- the end of the loop
 have stop:(∀m (h:m < o.keys.length),m < i→Vl.less o.keys[m] key=true)→DoX prog (mIA 24 vk' (.int .i64 (i:Int))) w10 (pk K) (fun t61 w=>
 DoX prog (mStore 9 t61 (.string ⟨key.toArray⟩)) w (pk K) fun _ w=>
 DoX prog (mFA 27 (.pointer (some ⟨b3,0,none⟩)) 5) w (pk K) fun t62 w=>
 DoX prog (mLoad 25 t62) w (pk K) fun t63 w=>
 DoX prog (mLoad 27 (.pointer (some ⟨b5,0,none⟩))) w (pk K) fun t65 w=>
 DoX prog (mIA 25 t63 (.int .i64 (i:Int))) w (pk K) fun t66 w=>
 DoX prog (mStore 27 t66 t65) w (pk K) fun _ w=>
 DoX prog (mLoad 27 (.pointer (some ⟨b3,0,none⟩))) w (pk K) fun t67 w=>
 DoX prog (mStore 27 (.pointer (some ⟨b6,0,none⟩)) t67) w (pk K) fun _ w=>
 RetX prog [.cell (.pointer (some ⟨b6,0,none⟩)) 27] w K):=by
  intro hlt;have hp:Vl.place o.keys key=i:=Vl.place_at hi hlt fun h=>Vl.less_asymm (hgt i h (Nat.le_refl _));have hh:Vl.hit o.keys key=false:=by
   unfold Vl.hit;rw[hp,decide_eq_false_iff_not];exact fun h=>hn (List.mem_of_getElem? h)
  have hput:Vl.put o key x=.mk o.k o.n o.g o.s (o.keys.take i++key::o.keys.drop i) (o.kids.take i++x::o.kids.drop i):=by
   unfold Vl.put;rw[hp,hh];rfl
  refine key_put 3 ho rfl (by omega) fun w11 ho=>?_;rw[ins_end g _ hi] at ho;have ho:OwnS S0 w w11 [obE b6 ob0 nilS nilS,obE b5 x xk xc,obE b3 o vk' vc',keyE vk' (o.keys.take i++key::o.keys.drop i),kidE vc' (o.kids.length+1) cs']:=ho;rw[fa_o5,ob_kids ho 2 rfl,ob_v ho 1 rfl];refine kid_put 4 ho rfl (by omega) hxa.1 hxa.2 fun w12 ho=>?_;have hset:=ovs_set hall hx i;rw[ins_end y _ (by omega)] at hset;have ho:OwnS S0 w w12 [obE b6 ob0 nilS nilS,obE b5 x xk xc,obE b3 o vk' vc',keyE vk' (o.keys.take i++key::o.keys.drop i),kidE vc' (o.kids.length+1) (cs'.take (i*6)++obC x xk xc++cs'.drop (i*6+6))]:=ho;rw[ob_v ho 2 rfl];refine ob_put 0 hvk' hvc' ho rfl fun w13 ho=>?_;refine ret_v1 (rv_cell (ho.agg 0 rfl aggOb)) (hK _ _ ⟨vk',vc',cs'.take (i*6)++obC x xk xc++cs'.drop (i*6+6),by rw[hput];rfl,by rw[hput];exact hset,?_⟩);have ho:=ho.tail.tail.tail;have el:(Vl.put o key x).kids.length=o.kids.length+1:=by rw[hput];show (o.kids.take i++x::o.kids.drop i).length=_;simp;omega
  rw[el,show (Vl.put o key x).keys=o.keys.take i++key::o.keys.drop i by rw[hput];rfl];subst hS;exact OwnS.back ho.pair
 rcases Nat.eq_zero_or_pos i with h0|h0
 ·subst h0;simp only[rs,show decide ((0:Int) < ((0:Nat):Int))=false by decide,g_un,fa_o4,ob_keys ho 2 rfl];exact stop fun m _ h=>by omega
 obtain⟨j,rfl⟩:∃j,i=j+1:=⟨i - 1,by omega⟩;have hj:(0:Int) < ((j+1:Nat):Int):=by omega
 obtain⟨gk,capk,hvke,ia1,ld1⟩:=key_row 3 ho rfl (j:=j) (by omega);rw[ins_get g hi] at ld1;have hw1:IntKind.wrap .i64 (((j+1:Nat):Int) - 1)=(j:Int):=by rw[wrap64_id (by omega) (by omega)];omega
 have iaX:∀{PK K},DoX prog (mIA 24 vk' (.int .i64 (j:Int))) w10 PK K=K (.pointer (some ⟨gk,j,none⟩)) w10:=do_eq (ia1 w10);have ldX:∀{PK K},DoX prog (mLoad 9 (.pointer (some ⟨gk,j,none⟩))) w10 PK K=K (.string ⟨(o.keys[j]'(by omega)).toArray⟩) w10:=do_eq (ld1 w10 (ho.at_ 3 rfl));simp only[rs,hj,decide_true,fa_o4,ob_keys ho 2 rfl,hw1,iaX,ldX,less_ge,Bool.not_not];by_cases hl:Op.bytesLess key (o.keys[j]'(by omega))=true
 case neg=>
  simp only[Bool.not_eq_true] at hl;simp only[hl,i_f];refine stop fun m hm hmi=>?_;have hne:o.keys[j]≠key:=fun e=>hn (e▸List.getElem_mem (by omega));have h1:Vl.less o.keys[j] key=true:=Vl.less_total hl fun e=>hne e.symm;rcases Nat.lt_or_ge m j with h|h
  ·exact Vl.less_trans (Vl.rise_get hr h (by omega)) h1
  ·have:m=j:=by omega
   subst this;exact h1
 simp only[hl,i_t];refine quiet ?_;refine q_do _ (fun _=>run_fa fo_o4) (q_at _ (fun _ hb=>run_load_cell nSlS5 ((ho.grow hb).cell 2 rfl 4 rfl)) ?_);refine q_do _ (fun _=>run_fa fo_o4) (q_at _ (fun _ hb=>run_load_cell nSlS5 ((ho.grow hb).cell 2 rfl 4 rfl)) ?_);refine q_do (.int .i64 (j:Int)) (fun _=>by rw[r_sub,hw1]) ?_;refine q_do _ (fun w=>ia1 w) (q_at _ (fun _ hb=>ld1 _ ((ho.grow hb).at_ 3 rfl)) ?_);obtain⟨gk2,capk2,hvke2,ia2,_⟩:=key_row 3 ho rfl (j:=j+1) (by omega);have hg:gk2=gk:=by rw[hvke2] at hvke;injection hvke with h;injection h with h;injection h
 subst hg;refine q_do _ (fun w=>ia2 w) fun w11 hb=>?_;have ho:=ho.grow hb;subst hvke2;refine key_st 3 ho rfl (by omega) fun w12 ho=>?_;rw[ins_shift g hi] at ho;have ho:OwnS S0 w w12 [obE b6 ob0 nilS nilS,obE b5 x xk xc,obE b3 o _ vc',keyE _ (o.keys.take j++o.keys[j]::o.keys.drop j),kidE vc' (o.kids.length+1) cs']:=ho;obtain⟨gc,capc,yk,yc,hvce,hy,ia3,ld3⟩:=kid_row 4 ho rfl hcl hall (j:=j) (by omega);obtain⟨gc2,capc2,_,_,hvce2,_,ia4,_⟩:=kid_row 4 ho rfl hcl hall (j:=j+1) (by omega);have hg2:gc2=gc:=by rw[hvce2] at hvce;injection hvce with h;injection h with h;injection h
 subst hg2;have hgk:(o.kids.take (j+1)++y::o.kids.drop (j+1))[j]'(by omega)=o.kids[j]'(by omega):=ins_get y (by omega) (by omega);rw[hgk] at hy ld3;have hyo:yk.oneCell'=true∧yc.oneCell'=true:=by
  obtain⟨a,b,c,e,h⟩:=hy.open
  injection e with e
  have:=congrArg Array.toList e;simp[obC] at this;exact⟨by rw[this.1];exact h.keys.one,by rw[this.2];exact h.kids.one⟩
 refine quiet ?_;refine q_do _ (fun _=>run_fa fo_o5) (q_at _ (fun _ hb=>run_load_cell nSlOb ((ho.grow hb).cell 2 rfl 5 rfl)) ?_);refine q_do _ (fun _=>run_fa fo_o5) (q_at _ (fun _ hb=>run_load_cell nSlOb ((ho.grow hb).cell 2 rfl 5 rfl)) ?_);refine q_do (.int .i64 (j:Int)) (fun _=>by rw[r_sub,hw1]) ?_;refine q_do _ (fun w=>ia3 w) (q_at _ (fun _ hb=>ld3 _ ((ho.grow hb).at_ 4 rfl)) ?_);refine q_do _ (fun w=>ia4 w) fun w13 hb=>?_;have ho:=ho.grow hb;subst hvce2;refine kid_st 4 ho rfl (by omega) hyo.1 hyo.2 fun w14 ho=>?_;have hset:=ovs_set hall hy (j+1);rw[ins_shift y (by omega)] at hset;refine nextX ⟨j,o.keys[j],o.kids[j],_,rfl,by omega,fun m hm hmi=>?_,hset,ho⟩ (by show Int.toNat (j:Int) < Int.toNat ((j+1:Nat):Int);omega);rcases Nat.lt_or_ge j m with h|h
 ·exact hgt m hm h
 ·have:m=j:=by omega
  subst this;exact hl
end
section
open Eng Go.RowKit
def objR (e:Ps.R)(v:Value)(N:Mem):Prop:=∃u,v=.tuple #[u,.int .i64 e.2.1,.int .i64 e.2.2]∧OV N.A N.w u e.1
def RObj (s:List UInt8)(n:Nat):Prop:=∀(a:Int) (M:Mem) (w:World),M.has w→RetM prog 50 #[.string ⟨s.toArray⟩,.int .i64 a,.int .i64 (25 - (n:Int))] M w (objR (Ps.obj s n a))
theorem ob0_ov2 {A:Nat→Prop}{w:World}:OV A w (obV Vl.ob0 nilS nilS) Vl.ob0:=ObAt.ov (o:=Vl.ob0) ⟨SlA.nil _ _ _ _,SlA.nil _ _ _ _,OVs.nil⟩
section
variable {w:World}{S:Nat→Prop}{w0:World}{L:List Ent}
theorem ret_bad {KE:Ending→World→Prop}{PK PK2:PKT}(i:Nat){b:Nat}{o:Ob}{vk vc:Value}{e:Int}(ho:OwnS S w0 w L)(hi:L[i]?=some (obE b o vk vc))
  (k:∀w',OwnS S w0 w' (L.set i (obE b Vl.ob0 nilS nilS))→KE (.returned (.tuple #[obV Vl.ob0 nilS nilS,.int .i64 0,.int .i64 e])) w') :
  DoX prog (mBuild 27 #[]) w PK fun t w=>DoX prog (mStore 27 (.pointer (some ⟨b,0,none⟩)) t) w PK2 fun _ w=>RetX prog [.cell (.pointer (some ⟨b,0,none⟩)) 27,.val (.int .i64 0),.val (.int .i64 e)] w KE:=by
 rw[m_ob0];refine ob_put i rfl rfl ho hi fun w' ho=>?_;have hil:i < L.length:=(List.getElem?_eq_some_iff.1 hi).1;have hi2:(L.set i (obE b Vl.ob0 nilS nilS))[i]?=some (obE b Vl.ob0 nilS nilS):=by simp[hil]
 exact ret_v3 (rv_cell (ho.agg i hi2 aggOb)) rv_val rv_val (k w' ho)
end
theorem rarr06_ret (s:List UInt8)(n:Nat)(hn:n≤23)(hs:s.length≤1000000000)(hsub:RObj s n)(a:Int)(h0:0≤a)(h1:a≤s.length)(M:Mem)(w:World)(hM:M.has w) :
  RetM prog 80 #[.string ⟨s.toArray⟩,.int .i64 a,.int .i64 (24 - (n:Int))] M w (objR (Ps.arr s (decide (n≠0)) (Ps.obj s n) (s.length+1) a [])):=by
 refine retM_of hM fun K hK=>S_foliantref06_array_ok ?_;unfold S_foliantref06_array;have ho:=(OwnS.memS hM).nilU 27 6;refine o_oba ho fun b6 w1 ho=>?_;have hb6:∀{PK:PKT} {K:VWP},DoX prog (mBuild 27 #[(0,(.int .i64 6))]) w1 PK K=K (obV (.mk 6 0 0 [] [] []) nilS nilS) w1:=do_eq (by kernel_rfl);rw[hb6];refine o_oba ho fun b9 w2 ho=>?_;refine ob_put (o':=.mk 6 0 0 [] [] []) (vk':=nilS) (vc':=nilS) 0 rfl rfl ho rfl fun w3 ho=>?_;have ho:OwnS M.A w w3 [obE b9 (.mk 6 0 0 [] [] []) nilS nilS,obE b6 ob0 nilS nilS,kidE nilS 0 [],.mem M]:=ho;refine loop (fun vs w'=>∃(a':Int) (m:Nat) (acc:List Ob) (cs:List Value) (vc:Value) (N:Mem),vs=[.int .i64 a',.int .i64 0,.int .i64 0]∧0≤a'∧a'≤s.length∧(acc.length:Int)≤a'∧acc.length+m=s.length+1 ∧
   Ps.arr s (decide (n≠0)) (Ps.obj s n) m a' acc=Ps.arr s (decide (n≠0)) (Ps.obj s n) (s.length+1) a []∧M.le N∧OVs N.A N.w cs acc ∧
   OwnS M.A w w' [obE b9 (.mk 6 0 0 [] [] acc) nilS vc,obE b6 ob0 nilS nilS,kidE vc acc.length cs,.mem N]) (fun vs _=>s.length - n0 vs)
  ⟨a,s.length+1,[],[],nilS,M,rfl,h0,h1,by simpa using h0,by simp,rfl,M.le_refl,OVs.nil,ho⟩ ?_
 clear ho;rintro vs w4 ⟨a',m,acc,cs,vc,N,rfl,ha0,ha1,hla,hml,harr,hle,hall,ho⟩ _;simp only[S_foliantref06_array_0,gd];obtain⟨m,rfl⟩:∃k,m=k+1:=⟨m - 1,by omega⟩;rw[Ps.arr] at harr;refine tk_new ho (rnext_ret s a' w4 (by omega)) fun b10 w5 ho=>?_;have hvc:=urow_one (ho.at_ 3 rfl)
 -- an error ends the loop
 have fail:∀{W:World} {L:List Ent} {N':Mem} (i j:Nat) (e:Int) {o:Ob} {vk vc:Value},OwnS M.A w W L→L[i]?=some (obE b6 o vk vc)→L[j]?=some (.mem N')→(∀x,(L.set i x)[j]?=some (.mem N'))→M.le N'→Ps.bad e=Ps.arr s (decide (n≠0)) (Ps.obj s n) (s.length+1) a [] →
   DoX prog (mBuild 27 #[]) W (pk K) (fun t W=>DoX prog (mStore 27 (.pointer (some ⟨b6,0,none⟩)) t) W (pk K) fun _ W=>RetX prog [.cell (.pointer (some ⟨b6,0,none⟩)) 27,.val (.int .i64 0),.val (.int .i64 e)] W K):=by
  intro W L N' i j e o vk vc ho hi hj hs hle he;refine ret_bad i ho hi fun w' ho=>?_;refine hK _ _ N' _ j ho (hs _) hle ?_;rw[←he];exact⟨_,rfl,ob0_ov2⟩
 -- behind the tests of the next token
 have one:∀{W:World} (e':Int),OwnS M.A w W [tokE b10 (Lx.next s a').1,obE b9 (.mk 6 0 0 [] [] acc) nilS vc,obE b6 ob0 nilS nilS,kidE vc acc.length cs,.mem N]→(e'≠0→Ps.bad e'=Ps.arr s (decide (n≠0)) (Ps.obj s n) (s.length+1) a []) →
   (e'=0→(if (Ps.obj s n a').2.2≠0 then Ps.bad (Ps.obj s n a').2.2 else Ps.arr s (decide (n≠0)) (Ps.obj s n) m (Ps.obj s n a').2.1 (acc++[(Ps.obj s n a').1]))=Ps.arr s (decide (n≠0)) (Ps.obj s n) (s.length+1) a []) →
   S_foliantref06_array_1 (.string ⟨s.toArray⟩) (.int .i64 a') (.int .i64 (24 - (n:Int))) (.pointer (some ⟨b6,0,none⟩)) (.int .i64 0) (.int .i64 0) (.pointer (some ⟨b9,0,none⟩)) (.int .i64 e') W
    (NextX (fun vs w'=>∃(a':Int) (m:Nat) (acc:List Ob) (cs:List Value) (vc:Value) (N:Mem),vs=[.int .i64 a',.int .i64 0,.int .i64 0]∧0≤a'∧a'≤s.length∧(acc.length:Int)≤a'∧acc.length+m=s.length+1 ∧
   Ps.arr s (decide (n≠0)) (Ps.obj s n) m a' acc=Ps.arr s (decide (n≠0)) (Ps.obj s n) (s.length+1) a []∧M.le N∧OVs N.A N.w cs acc ∧
   OwnS M.A w w' [obE b9 (.mk 6 0 0 [] [] acc) nilS vc,obE b6 ob0 nilS nilS,kidE vc acc.length cs,.mem N]) (fun vs _=>s.length - n0 vs) [.int .i64 a',.int .i64 0,.int .i64 0] w4) K:=by
  intro W e' ho hbad hgo;unfold S_foliantref06_array_1;by_cases he:e'=0
  case neg=>
   simp only[rs,he,ne_eq,not_false_eq_true,decide_true];exact fail 2 4 e' ho rfl rfl (fun _=>rfl) hle (hbad he)
  subst he;have hgo:=hgo rfl;simp only[rs,ne_eq,not_true,decide_false];rw[wrap64_id (by omega) (by omega),show (24:Int) - n+1=25 - n by omega];refine c_mem ho 4 rfl (hsub a' N W (ho.hasM 4 rfl)) ?_;rintro _ N2 w6 hle2 ⟨u,rfl,hu⟩ ho;have hbd:=@Ps.obj_bd s n a';generalize Ps.obj s n a'=e at *;obtain⟨xk,xc,xcs,rfl,hx⟩:=hu.open;simp only[ex];refine o_oba ho fun b12 w7 ho=>?_;refine ob_put 0 hx.keys.one hx.kids.one ho rfl fun w8 ho=>?_;have ho:OwnS M.A w w8 [obE b12 e.1 xk xc,tokE b10 (Lx.next s a').1,obE b9 (.mk 6 0 0 [] [] acc) nilS vc,obE b6 ob0 nilS nilS,kidE vc acc.length cs,.mem N2]:=ho;simp only[rs];by_cases hz:e.2.2=0
  case neg=>
   simp only[hz,ne_eq,not_false_eq_true,decide_true,i_t];rw[if_pos hz] at hgo;exact fail 3 5 _ ho rfl rfl (fun _=>rfl) (hle.trans hle2) hgo
  simp only[hz,ne_eq,not_true,decide_false,i_f];rw[if_neg (by rw[hz];simp)] at hgo;have hbd:=hbd hz;rw[fa_o5,ob_kids ho 2 rfl,ob_v ho 0 rfl];refine o_obs1 e.1 hx.keys.one hx.kids.one ho fun nb w9 ho=>?_;refine o_apO 5 ho rfl (ho.sl 0 rfl 6 1 1 rfl) (obC_one _ hx.keys.one hx.kids.one) (by omega) fun vc' w10 ho=>?_;have ho:=ho.tail.tail.tail;have ho:OwnS M.A w w10 [obE b9 (.mk 6 0 0 [] [] acc) nilS vc,obE b6 ob0 nilS nilS,kidE vc' (acc.length+1) (cs++obC e.1 xk xc),.mem N2]:=ho;have hvc':=urow_one (ho.at_ 2 rfl);rw[fa_o5];refine o_store 0 ho rfl (by kernel_rfl) hvc' (show 0+5 < 6 by omega) fun w11 ho=>?_;refine nextX ⟨e.2.1,m,acc++[e.1],cs++obC e.1 xk xc,vc',N2,rfl,by omega,hbd.2,by simp;omega,by simp;omega,hgo,hle.trans hle2,ovs_app (hall.le hle2) (ovs_1 hx.ov),?_⟩ (by show s.length - Int.toNat e.2.1 < s.length - Int.toNat a';omega);have el:(acc++[e.1]).length=acc.length+1:=by simp
  rw[el];exact ho
 generalize Lx.next s a'=x at *
 have ho:OwnS M.A w w5 [tokE b10 x.1,obE b9 (.mk 6 0 0 [] [] acc) nilS vc,obE b6 ob0 nilS nilS,kidE vc acc.length cs,.mem N]:=ho
 -- what comes if the array does not end
 have on:¬(x.2=0∧x.1.k=6∧x.1.s=[93])→(JoinX (fun J3=>
 DoX prog (mEq .eql 30 (.tmp 36) (.const (.int .i64 0)) (.int .i64 x.2) (.int .i64 0)) w5 (pk K) fun t37 w=>
 GDo t37 true (fun E=>DoX prog (mFA 27 (.pointer (some ⟨b9,0,none⟩)) 5) w (pk K) E) w fun t39 w=>
 GDo t37 true (fun E=>DoX prog (mLoad 25 t39) w (pk K) E) w fun t40 w=>
 GDo t37 true (fun E=>DoX prog (mB .len #[25] 3 #[false] #[t40]) w (pk K) E) w fun t41 w=>
 GDo t37 true (fun E=>DoX prog (mEq .eql 3 (.tmp 41) (.const (.int .i64 8191)) t41 (.int .i64 8191)) w (pk K) E) w fun t42 w=>
 DoX prog (mPick t37 t42 (.bool false)) w (pk K) fun t43 w=>
 GDo t43 true (fun E=>DoX prog (mLoad 90 (.pointer (some ⟨b10,0,none⟩))) w (pk K) E) w fun t45 w=>
 GDo t43 true (fun E=>CallX prog 72 #[t45] w (pk K) E) w fun t46 w=>
 DoX prog (mPick t43 t46 (.bool false)) w (pk K) fun t47 w=>
 GDo t47 true (fun E=>E (.int .i64 (24 - (n:Int))) w) w fun t49 w=>
 GDo t47 true (fun E=>DoX prog (mBin .lss 3 t49 (.int .i64 24)) w (pk K) E) w fun t50 w=>
 DoX prog (mPick t47 t50 (.bool false)) w (pk K) fun t51 w=>
 IfX t51 (J3 [(.int .i64 6)] w) (J3 [(.int .i64 x.2)] w)) (fun vs3 W'=>∀_:Sg,S_foliantref06_array_1 (.string ⟨s.toArray⟩) (.int .i64 a') (.int .i64 (24 - (n:Int))) (.pointer (some ⟨b6,0,none⟩)) (.int .i64 0) (.int .i64 0) (.pointer (some ⟨b9,0,none⟩)) (vs3.getD 0 undef) W'
    (NextX (fun vs w'=>∃(a':Int) (m:Nat) (acc:List Ob) (cs:List Value) (vc:Value) (N:Mem),vs=[.int .i64 a',.int .i64 0,.int .i64 0]∧0≤a'∧a'≤s.length∧(acc.length:Int)≤a'∧acc.length+m=s.length+1 ∧
   Ps.arr s (decide (n≠0)) (Ps.obj s n) m a' acc=Ps.arr s (decide (n≠0)) (Ps.obj s n) (s.length+1) a []∧M.le N∧OVs N.A N.w cs acc ∧
   OwnS M.A w w' [obE b9 (.mk 6 0 0 [] [] acc) nilS vc,obE b6 ob0 nilS nilS,kidE vc acc.length cs,.mem N]) (fun vs _=>s.length - n0 vs) [.int .i64 a',.int .i64 0,.int .i64 0] w4) K)):=by
  intro hno;rw[if_neg hno] at harr;refine join fun J hJ=>?_;have six:∀{W:World},OwnS M.A w W [tokE b10 x.1,obE b9 (.mk 6 0 0 [] [] acc) nilS vc,obE b6 ob0 nilS nilS,kidE vc acc.length cs,.mem N]→(x.2=0∧acc.length=8191∧Ps.begins x.1=true∧decide (n≠0)=true)→J [.int .i64 6] W:=by
   intro W ho h;rw[if_pos h] at harr;exact hJ _ _ fun _=>one 6 ho (fun _=>harr) (fun h=>absurd h (by decide))
  have non:∀{W:World},OwnS M.A w W [tokE b10 x.1,obE b9 (.mk 6 0 0 [] [] acc) nilS vc,obE b6 ob0 nilS nilS,kidE vc acc.length cs,.mem N]→¬(x.2=0∧acc.length=8191∧Ps.begins x.1=true∧decide (n≠0)=true)→J [.int .i64 x.2] W:=by
   intro W ho h;rw[if_neg h] at harr;refine hJ _ _ fun _=>one x.2 ho (fun h=>?_) (fun h=>?_)
   ·rw[if_pos h] at harr;exact harr
   ·rw[if_neg (by rw[h];simp)] at harr;exact harr
  simp only[rs];by_cases e1:x.2=0
  case neg=>
   simp only[decide_eq_false e1,rs,g_un];exact non ho fun h=>e1 h.1
  simp only[decide_eq_true e1,rs,fa_o5,ob_kids ho 1 rfl,sl_len Tryz.underlying25 (ho.slU 3 rfl)];by_cases e2:(acc.length:Int)=8191
  case neg=>
   simp only[decide_eq_false e2,rs,g_un];exact non ho fun h=>e2 (by omega)
  simp only[decide_eq_true e2,rs,tk_v ho 0 rfl];refine c_below ho (R:=fun v=>v=.bool (Ps.begins x.1)) (rfirst_ret x.1 w5) ?_;rintro _ w6 rfl ho;cases e3:Ps.begins x.1 with
 |false=>
   simp only[rs,g_un];exact non ho fun h=>by rw[e3] at h;exact absurd h.2.2.1 (by decide)
 |true=>
   simp only[rs];by_cases e4:n=0
   ·have:¬(24:Int) - n < 24:=by omega
    simp only[decide_eq_false this,rs];exact non ho fun h=>by simp[e4] at h
   ·have:(24:Int) - n < 24:=by omega
    simp only[decide_eq_true this,rs];exact six ho ⟨e1,by omega,e3,decide_eq_true e4⟩
 simp only[rs];by_cases e1:x.2=0
 case neg=>
  simp only[decide_eq_false e1,rs,g_un];simp only[rs,decide_eq_false e1] at on;exact on fun h=>e1 h.1
 by_cases e2:x.1.k=6
 case neg=>
  simp only[decide_eq_true e1,rs,fa_t0,tk_k ho 0 rfl,decide_eq_false e2,g_un];simp only[rs,decide_eq_true e1] at on;exact on fun h=>e2 h.2.1
 by_cases e3:x.1.s=[93]
 case neg=>
  simp only[decide_eq_true e1,rs,fa_t0,tk_k ho 0 rfl,decide_eq_true e2,fa_t4',tk_s ho 0 rfl,decide_eq_false e3,g_un];simp only[rs,decide_eq_true e1] at on;exact on fun h=>e3 h.2.2
 simp only[decide_eq_true e1,rs,fa_t0,tk_k ho 0 rfl,decide_eq_true e2,fa_t4',tk_s ho 0 rfl,decide_eq_true e3,g_un];rw[if_pos ⟨e1,e2,e3⟩] at harr;have ho:=ho.drew;refine⟨fun W=>(obE b9 (.mk 6 0 0 [] [] acc) nilS vc).is W∧(tokE b10 x.1).is W,⟨ho.at_ 1 rfl,ho.at_ 0 rfl⟩,?_⟩;refine hd_do (obV (.mk 6 0 0 [] [] acc) nilS vc) (fun W h=>run_load_at (AtV.agg aggOb (cs:=obC (.mk 6 0 0 [] [] acc) nilS vc) rfl fun j u hj=>by rw[Nat.zero_add];exact cells_cell (T:=27) h.1 hj)) ?_;refine hd_pure _ (fun _=>run_fa ft2) ?_;refine hd_do (.int .i64 x.1.t) (fun W h=>run_load_cell nInt (cells_cell (T:=90) (cs:=tokC x.1) (i:=2) h.2 rfl)) ?_;refine ob_put 2 rfl hvc ho rfl fun w6 ho=>⟨⟨ho.at_ 1 rfl,ho.at_ 0 rfl⟩,?_⟩;have ho:OwnS M.A w w6 [tokE b10 x.1,obE b9 (.mk 6 0 0 [] [] acc) nilS vc,obE b6 (.mk 6 0 0 [] [] acc) nilS vc,kidE vc acc.length cs,.mem N]:=ho;have ho:=ho.tail.tail;have ho:=ho.perm (L':=[kidE vc acc.length cs,obE b6 (.mk 6 0 0 [] [] acc) nilS vc,.mem N]) (List.Perm.swap _ _ _);obtain⟨N2,hle2,hrow,ho⟩:=OwnS.freezeU (L:=[obE b6 (.mk 6 0 0 [] [] acc) nilS vc,.mem N]) ho 1 rfl;refine ret_v3 (rv_cell (ho.agg 0 rfl aggOb)) rv_val rv_val (hK _ _ N2 _ 1 ho rfl (hle.trans hle2) ?_);rw[←harr];exact⟨_,rfl,ObAt.ov (o:=.mk 6 0 0 [] [] acc) ⟨SlA.nil _ _ _ _,hrow,hall.le hle2⟩⟩
end
end Go.Proofs.YtjloddgofmdmgaaGreatDoor

namespace Go.Proofs.YtjloddgofmdmgaaGreatDoor
section
open Go
structure Lx where
 off:Int
 sty:List UInt8
 pre:List UInt8
 first:Int
 deriving DecidableEq
namespace Lb
end Lb
end
end Go.Proofs.YtjloddgofmdmgaaGreatDoor













namespace Go.Proofs.YtjloddgofmdmgaaGreatDoor
section
open Eng
def S_foliantref05_Texts_0 (t0 t1 t12 t13:Value)(w:World)(N1:List Value→World→Prop)(K:Ending→World→Prop):Prop:=
 DoX prog (mBin .lss 3 t13 t12) w (pk K) fun t14 w=>
 IfX t14 (QuietX w (fun C2=>
 QDo prog C2 (mIA 24 t0 t13) fun t18=>
 QDo prog C2 (mLoad 9 t18) fun t19=>
 QDo prog C2 (mIA 24 t1 t13) fun t22=>
 QDo prog C2 (mLoad 9 t22) fun t23=>
 QDo prog C2 (mEq .neq 9 (.tmp 19) (.tmp 23) t19 t23) fun t24=>
 ∀w,C2 w →
 IfX t24 (K (.returned (.bool false)) w) (DoX prog (mBin .add 3 t13 (.int .i64 1)) w (pk K) fun t25 w=>
 N1 [t25] w))) (K (.returned (.bool true)) w)
def S_foliantref05_Texts (t0 t1:Value)(w:World)(K:Ending→World→Prop):Prop:=
 DoX prog (mB .len #[24] 3 #[false] #[t0]) w (pk K) fun t7 w=>
 DoX prog (mB .len #[24] 3 #[false] #[t1]) w (pk K) fun t9 w=>
 DoX prog (mEq .neq 3 (.tmp 7) (.tmp 9) t7 t9) w (pk K) fun t10 w=>
 IfX t10 (K (.returned (.bool false)) w) (DoX prog (mB .len #[24] 3 #[false] #[t0]) w (pk K) fun t12 w=>
 LoopX [(.int .i64 0)] w (fun vs1 w N1=>∀_:Sg,S_foliantref05_Texts_0 t0 t1 t12 (vs1.getD 0 undef) w N1 K))
theorem S_foliantref05_Texts_eq (t0 t1:Value)(w:World)(K:Ending→World→Prop):wpX prog 26 [] [(4,[13])] none (bodyOf Tryz.f40) (topQ prog [.tmp 4] K) (startX [t0,t1]) [] w=S_foliantref05_Texts t0 t1 w K:=by kernel_rfl
theorem S_foliantref05_Texts_ok {t0 t1:Value}{w:World}{K:Ending→World→Prop}(h:S_foliantref05_Texts t0 t1 w K):Calls prog 40 #[t0,t1] w K:=
 calls_of_wpX Tryz.func40 rfl rfl rfl rfl (Eq.mpr (S_foliantref05_Texts_eq t0 t1 w K) h)
end
section
open Eng Go.RowKit
theorem nStrT:notAgg prog 9=true:=by kernel_rfl
theorem rtexts_ret (va vb:Value)(la lb:List (List UInt8))(w:World)(ha:Sl w va 1 la.length (strsV la))(hb:Sl w vb 1 lb.length (strsV lb))(hl:la.length≤1099511627776) :
  Ret prog 40 #[va,vb] w (fun r w'=>r=.bool (decide (la=lb))∧Below w.heap.size w w'):=by
 refine ret_of fun K hK=>S_foliantref05_Texts_ok ?_;unfold S_foliantref05_Texts;rw[sl_len Tryz.underlying24 ha,sl_len Tryz.underlying24 hb];simp only[rs];by_cases hlen:(la.length:Int)≠(lb.length:Int)
 ·simp only[decide_eq_true hlen,i_t];have hne:la≠lb:=fun e=>hlen (by rw[e]);exact hK _ _ ⟨by rw[decide_eq_false hne],(Own.start w).done⟩
 have hle:la.length=lb.length:=by omega
 simp only[decide_eq_false hlen,i_f,sl_len Tryz.underlying24 ha];refine loop (fun vs w'=>∃(i:Nat),vs=[.int .i64 i]∧i≤la.length∧la.take i=lb.take i∧Own w w' []) (fun vs _=>la.length - n0 vs) ⟨0,rfl,by omega,by simp,Own.start w⟩ ?_;rintro vs w2 ⟨i,rfl,hi,he,ho⟩ _;simp only[S_foliantref05_Texts_0,gd,rs];by_cases hlt:(i:Int) < (la.length:Int)
 ·have h1:i < la.length:=by omega
  have h2:i < lb.length:=by omega
  simp only[hlt,decide_true,rs];obtain⟨ba,oa,ca,rfl,hca⟩:=sl_open ha (by omega);obtain⟨bb,ob,cb,rfl,hcb⟩:=sl_open hb (by omega);refine quiet (q_do _ (fun _=>run_ia Tryz.underlying24 (show _=some 1 by kernel_rfl) (by omega) (by omega)) ?_);refine q_at (.string ⟨(la[i]).toArray⟩) (fun wc hw=>run_load_cell nStrT ((ho.grow hw).old ?_)) ?_
  ·rw[Int.toNat_natCast,Nat.mul_one];exact hca i _ (strsV_get h1)
  refine q_do _ (fun _=>run_ia Tryz.underlying24 (show _=some 1 by kernel_rfl) (by omega) (by omega)) ?_;refine q_at (.string ⟨(lb[i]).toArray⟩) (fun wc hw=>run_load_cell nStrT ((ho.grow hw).old ?_)) ?_
  ·rw[Int.toNat_natCast,Nat.mul_one];exact hcb i _ (strsV_get h2)
  refine q_sne ?_;intro w3 hw;have ho:=ho.grow hw;by_cases hq:la[i]=lb[i]
  ·simp only[hq,ne_eq,not_true,decide_false,i_f,rs];rw[wrap64_id (by omega) (by omega)];refine nextX ⟨i+1,rfl,by omega,?_,ho⟩ (by simp[n0,RowKit.intOf];omega);rw[List.take_succ_eq_append_getElem h1,List.take_succ_eq_append_getElem h2,he,hq]
  ·simp only[hq,ne_eq,not_false_eq_true,decide_true,i_t];have hne:la≠lb:=fun e=>hq (by subst e;rfl);exact hK _ _ ⟨by rw[decide_eq_false hne],ho.done⟩
 ·simp only[hlt,decide_false,rs,g_un];have hab:la=lb:=by
   rw[List.take_of_length_le (by omega),List.take_of_length_le (by omega)] at he;exact he
  exact hK _ _ ⟨by rw[decide_eq_true hab],ho.done⟩
end
section
open Eng
def S_foliantref05_Same (t0 t1:Value)(w:World)(K:Ending→World→Prop):Prop:=
 DoX prog (mBox 27 t0) w (pk K) fun t2 w=>
 DoX prog (mBox 27 t1) w (pk K) fun t3 w=>
 DoX prog (mFA 27 t2 0) w (pk K) fun t5 w=>
 DoX prog (mLoad 3 t5) w (pk K) fun t6 w=>
 DoX prog (mFA 27 t3 0) w (pk K) fun t7 w=>
 DoX prog (mLoad 3 t7) w (pk K) fun t8 w=>
 DoX prog (mEq .eql 3 (.tmp 6) (.tmp 8) t6 t8) w (pk K) fun t9 w=>
 GDo t9 true (fun E=>DoX prog (mFA 27 t2 1) w (pk K) E) w fun t11 w=>
 GDo t9 true (fun E=>DoX prog (mLoad 2 t11) w (pk K) E) w fun t12 w=>
 GDo t9 true (fun E=>DoX prog (mFA 27 t3 1) w (pk K) E) w fun t13 w=>
 GDo t9 true (fun E=>DoX prog (mLoad 2 t13) w (pk K) E) w fun t14 w=>
 GDo t9 true (fun E=>DoX prog (mEq .eql 2 (.tmp 12) (.tmp 14) t12 t14) w (pk K) E) w fun t15 w=>
 DoX prog (mPick t9 t15 (.bool false)) w (pk K) fun t16 w=>
 GDo t16 true (fun E=>DoX prog (mFA 27 t2 2) w (pk K) E) w fun t18 w=>
 GDo t16 true (fun E=>DoX prog (mLoad 3 t18) w (pk K) E) w fun t19 w=>
 GDo t16 true (fun E=>DoX prog (mFA 27 t3 2) w (pk K) E) w fun t20 w=>
 GDo t16 true (fun E=>DoX prog (mLoad 3 t20) w (pk K) E) w fun t21 w=>
 GDo t16 true (fun E=>DoX prog (mEq .eql 3 (.tmp 19) (.tmp 21) t19 t21) w (pk K) E) w fun t22 w=>
 DoX prog (mPick t16 t22 (.bool false)) w (pk K) fun t23 w=>
 GDo t23 true (fun E=>DoX prog (mFA 27 t2 3) w (pk K) E) w fun t25 w=>
 GDo t23 true (fun E=>DoX prog (mLoad 9 t25) w (pk K) E) w fun t26 w=>
 GDo t23 true (fun E=>DoX prog (mFA 27 t3 3) w (pk K) E) w fun t27 w=>
 GDo t23 true (fun E=>DoX prog (mLoad 9 t27) w (pk K) E) w fun t28 w=>
 GDo t23 true (fun E=>DoX prog (mEq .eql 9 (.tmp 26) (.tmp 28) t26 t28) w (pk K) E) w fun t29 w=>
 DoX prog (mPick t23 t29 (.bool false)) w (pk K) fun t30 w=>
 GDo t30 true (fun E=>DoX prog (mFA 27 t2 4) w (pk K) E) w fun t32 w=>
 GDo t30 true (fun E=>DoX prog (mLoad 24 t32) w (pk K) E) w fun t33 w=>
 GDo t30 true (fun E=>DoX prog (mFA 27 t3 4) w (pk K) E) w fun t34 w=>
 GDo t30 true (fun E=>DoX prog (mLoad 24 t34) w (pk K) E) w fun t35 w=>
 GDo t30 true (fun E=>CallX prog 40 #[t33,t35] w (pk K) E) w fun t36 w=>
 DoX prog (mPick t30 t36 (.bool false)) w (pk K) fun t37 w=>
 GDo t37 true (fun E=>DoX prog (mFA 27 t2 5) w (pk K) E) w fun t39 w=>
 GDo t37 true (fun E=>DoX prog (mLoad 25 t39) w (pk K) E) w fun t40 w=>
 GDo t37 true (fun E=>DoX prog (mFA 27 t3 5) w (pk K) E) w fun t41 w=>
 GDo t37 true (fun E=>DoX prog (mLoad 25 t41) w (pk K) E) w fun t42 w=>
 GDo t37 true (fun E=>CallX prog 41 #[t40,t42] w (pk K) E) w fun t43 w=>
 DoX prog (mPick t37 t43 (.bool false)) w (pk K) fun t44 w=>
 K (.returned t44) w
theorem S_foliantref05_Same_eq (t0 t1:Value)(w:World)(K:Ending→World→Prop):wpX prog 45 [] [] none (bodyOf Tryz.f20) (topQ prog [.tmp 4] K) (startX [t0,t1]) [] w=S_foliantref05_Same t0 t1 w K:=by kernel_rfl
theorem S_foliantref05_Same_ok {t0 t1:Value}{w:World}{K:Ending→World→Prop}(h:S_foliantref05_Same t0 t1 w K):Calls prog 20 #[t0,t1] w K:=
 calls_of_wpX Tryz.func20 rfl rfl rfl rfl (Eq.mpr (S_foliantref05_Same_eq t0 t1 w K) h)
def S_foliantref05_List_0 (t0 t1 t12 t13:Value)(w:World)(N1:List Value→World→Prop)(K:Ending→World→Prop):Prop:=
 DoX prog (mBin .lss 3 t13 t12) w (pk K) fun t14 w=>
 IfX t14 (QuietX w (fun C2=>
 QDo prog C2 (mIA 25 t0 t13) fun t18=>
 QDo prog C2 (mLoad 27 t18) fun t19=>
 QDo prog C2 (mIA 25 t1 t13) fun t22=>
 QDo prog C2 (mLoad 27 t22) fun t23=>
 QCall prog C2 20 #[t19,t23] fun t24=>
 QDo prog C2 (mUn .not t24) fun t25=>
 ∀w,C2 w →
 IfX t25 (K (.returned (.bool false)) w) (DoX prog (mBin .add 3 t13 (.int .i64 1)) w (pk K) fun t26 w=>
 N1 [t26] w))) (K (.returned (.bool true)) w)
def S_foliantref05_List (t0 t1:Value)(w:World)(K:Ending→World→Prop):Prop:=
 DoX prog (mB .len #[25] 3 #[false] #[t0]) w (pk K) fun t7 w=>
 DoX prog (mB .len #[25] 3 #[false] #[t1]) w (pk K) fun t9 w=>
 DoX prog (mEq .neq 3 (.tmp 7) (.tmp 9) t7 t9) w (pk K) fun t10 w=>
 IfX t10 (K (.returned (.bool false)) w) (DoX prog (mB .len #[25] 3 #[false] #[t0]) w (pk K) fun t12 w=>
 LoopX [(.int .i64 0)] w (fun vs1 w N1=>∀_:Sg,S_foliantref05_List_0 t0 t1 t12 (vs1.getD 0 undef) w N1 K))
theorem S_foliantref05_List_eq (t0 t1:Value)(w:World)(K:Ending→World→Prop):wpX prog 27 [] [(4,[13])] none (bodyOf Tryz.f41) (topQ prog [.tmp 4] K) (startX [t0,t1]) [] w=S_foliantref05_List t0 t1 w K:=by kernel_rfl
theorem S_foliantref05_List_ok {t0 t1:Value}{w:World}{K:Ending→World→Prop}(h:S_foliantref05_List t0 t1 w K):Calls prog 41 #[t0,t1] w K:=
 calls_of_wpX Tryz.func41 rfl rfl rfl rfl (Eq.mpr (S_foliantref05_List_eq t0 t1 w K) h)
end
end Go.Proofs.YtjloddgofmdmgaaGreatDoor


namespace Go.Proofs.YtjloddgofmdmgaaGreatDoor
section
open Eng Go.RowKit
theorem text_ok {o:Ob}(h:(Wr.text o).2=0):Vl.check 1 o=0∧o.k≠9∧(Wr.text o).1=Pl.join (Wr.parts o):=by
 unfold Wr.text at h ⊢;split at h
 ·rename_i hc;exact absurd h hc
 split at h
 ·cases h
 rename_i hc h9
 rw[if_neg hc,if_neg h9];exact⟨Classical.not_not.1 hc,h9,rfl⟩
end
section
open Eng Go.RowKit
namespace Ob
 mutual
def eqb:Ob→Ob→Bool
|.mk k n g s ks cs,b=>decide (k=b.k)&&decide (n=b.n)&&decide (g=b.g)&&decide (s=b.s)&&decide (ks=b.keys)&&eqbs cs b.kids
def eqbs:List Ob→List Ob→Bool
|[],[]=>true
|a::l,b::m=>eqb a b&&eqbs l m
|[],_::_=>false
|_::_,[]=>false
end
 mutual
theorem eqb_iff:∀a b:Ob,eqb a b=true↔a=b
|.mk k n g s ks cs,.mk k' n' g' s' ks' cs'=>by
  have ih:=eqbs_iff cs cs';rw[eqb];simp only[Bool.and_eq_true,decide_eq_true_eq];simp only[Ob.k,Ob.n,Ob.g,Ob.s,Ob.keys,Ob.kids,ih,Ob.mk.injEq,and_assoc]
theorem eqbs_iff:∀a b:List Ob,eqbs a b=true↔a=b
|[],[]=>by simp[eqbs]
|a::l,b::m=>by
  rw[eqbs,Bool.and_eq_true,eqb_iff a b,eqbs_iff l m];simp
|[],_::_=>by simp[eqbs]
|_::_,[]=>by simp[eqbs]
end
theorem eqb_eq (a b:Ob):eqb a b=(decide (a.k=b.k)&&decide (a.n=b.n)&&decide (a.g=b.g)&&decide (a.s=b.s)&&decide (a.keys=b.keys)&&eqbs a.kids b.kids):=by cases a;rw[eqb];rfl
theorem eqbs_drop {a b:List Ob}{i:Nat}(h1:i < a.length)(h2:i < b.length):eqbs (a.drop i) (b.drop i)=(eqb a[i] b[i]&&eqbs (a.drop (i+1)) (b.drop (i+1))):=by
 rw[List.drop_eq_getElem_cons h1,List.drop_eq_getElem_cons h2,eqbs]
theorem eqbs_len:∀{a b:List Ob},a.length≠b.length→eqbs a b=false:=by
 intro a b h;cases he:eqbs a b with
|false=>rfl
|true=>rw[eqbs_iff] at he;exact absurd (by rw[he]) h
end Ob
theorem rlist_ret {a b:Ob}{ka va kb vb:Value}{ca cb:List Value}(w:World)(ha:ObAt (InW w) w a ka va ca)(hb:ObAt (InW w) w b kb vb cb)(hl:a.kids.length≤1000000000)
  (ih:∀(i:Nat) (h1:i < a.kids.length) (h2:i < b.kids.length) (x y:Value) (W:World),OV (InW W) W x a.kids[i]→OV (InW W) W y b.kids[i]→Ret prog 20 #[x,y] W (fun v w'=>v=.bool (Ob.eqb a.kids[i] b.kids[i])∧Below W.heap.size W w')) :
  Ret prog 41 #[va,vb] w (fun v w'=>v=.bool (Ob.eqbs a.kids b.kids)∧Below w.heap.size w w'):=by
 refine ret_of fun K hK=>S_foliantref05_List_ok ?_;unfold S_foliantref05_List;rw[sl_len Tryz.underlying25 ha.kids.1,sl_len Tryz.underlying25 hb.kids.1];simp only[rs];by_cases hlen:(a.kids.length:Int)≠(b.kids.length:Int)
 ·simp only[decide_eq_true hlen,i_t];exact hK _ _ ⟨by rw[Ob.eqbs_len (by omega)],(Own.start w).done⟩
 have hle:a.kids.length=b.kids.length:=by omega
 simp only[decide_eq_false hlen,i_f,sl_len Tryz.underlying25 ha.kids.1];refine loop (fun vs w'=>∃(i:Nat),vs=[.int .i64 i]∧i≤a.kids.length∧Ob.eqbs a.kids b.kids=Ob.eqbs (a.kids.drop i) (b.kids.drop i)∧Own w w' []) (fun vs _=>a.kids.length - n0 vs) ⟨0,rfl,by omega,by simp,Own.start w⟩ ?_;rintro vs w2 ⟨i,rfl,hi,he,ho⟩ _;simp only[S_foliantref05_List_0,gd,rs];by_cases hlt:(i:Int) < (a.kids.length:Int)
 ·have h1:i < a.kids.length:=by omega
  have h2:i < b.kids.length:=by omega
  simp only[hlt,decide_true,rs];obtain⟨x,p,hx,hrx⟩:=kid_at ha h1;obtain⟨y,q,hy,hry⟩:=kid_at hb h2;refine quiet (q_at _ (fun W hW=>(hrx W (OwnS.keptIn (ho.grow hW))).1) ?_);refine q_at _ (fun W hW=>(hrx W (OwnS.keptIn (ho.grow hW))).2) ?_;refine q_at _ (fun W hW=>(hry W (OwnS.keptIn (ho.grow hW))).1) ?_;refine q_at _ (fun W hW=>(hry W (OwnS.keptIn (ho.grow hW))).2) ?_;refine q_call _ (fun W hW=>ret_grew (ih i h1 h2 x y W (hx.at_ (ho.grow hW)) (hy.at_ (ho.grow hW))) hW) ?_;refine q_do _ (fun W=>mv_run (by simp[Op.unary];rfl)) ?_;intro w3 hw;have ho:=ho.grow hw;rw[Ob.eqbs_drop h1 h2] at he;cases hq:Ob.eqb a.kids[i] b.kids[i] with
 |true=>
   simp only[Bool.not_true,i_f,rs];rw[wrap64_id (by omega) (by omega)];refine nextX ⟨i+1,rfl,by omega,?_,ho⟩ (by simp[n0,RowKit.intOf];omega);rw[he,hq];rfl
 |false=>
   simp only[Bool.not_false,i_t];exact hK _ _ ⟨by rw[he,hq];rfl,ho.done⟩
 ·simp only[hlt,decide_false,rs];refine hK _ _ ⟨?_,ho.done⟩;rw[he,List.drop_eq_nil_of_le (by omega),List.drop_eq_nil_of_le (by omega),Ob.eqbs]
theorem rsame5_ret (n:Nat):∀(a b:Ob) (x y:Value) (w:World),a.wt≤n→a.wt≤1000000000→OV (InW w) w x a→OV (InW w) w y b→Ret prog 20 #[x,y] w (fun v w'=>v=.bool (Ob.eqb a b)∧Below w.heap.size w w'):=by
 induction n with
|zero=>intro a b x y w h;have:=a.wt_pos;omega
|succ n ih=>
 intro a b x y w hn hw hx hy;obtain⟨ka,va,ca,rfl,ha⟩:=hx.open;obtain⟨kb,vb,cb,rfl,hb⟩:=hy.open;have hww:Ob.wts a.kids≤1000000000:=by cases a;rw[Ob.wt] at hw;simp only[Ob.kids];omega
 have hkt:Pl.tot a.keys≤1000000000:=by cases a;rw[Ob.wt] at hw;simp only[Ob.keys];omega
 have hlk:=Ob.len_wts a.kids;rw[Ob.eqb_eq];refine ret_of fun K hK=>S_foliantref05_Same_ok ?_;unfold S_foliantref05_Same;refine o_obb a ha.keys.one ha.kids.one (Own.start w) fun p w1 ho=>?_;refine o_obb b hb.keys.one hb.kids.one ho fun q w2 ho=>?_;rw[fa_o0,ob_k ho 1 rfl,fa_o0,ob_k ho 0 rfl];by_cases h1:a.k=b.k
 case neg=>simp only[rs,h1,decide_false,Bool.false_and] at hK ⊢;exact hK _ _ ⟨rfl,ho.done⟩
 simp only[rs,h1,decide_true,fa_o1,ob_n ho 1 rfl,ob_n ho 0 rfl,Bool.true_and] at hK ⊢;by_cases h2:a.n=b.n
 case neg=>simp only[rs,h2,decide_false,Bool.false_and] at hK ⊢;exact hK _ _ ⟨rfl,ho.done⟩
 simp only[rs,h2,decide_true,fa_o2,ob_g ho 1 rfl,ob_g ho 0 rfl,Bool.true_and] at hK ⊢;by_cases h3:a.g=b.g
 case neg=>simp only[rs,h3,decide_false,Bool.false_and] at hK ⊢;exact hK _ _ ⟨rfl,ho.done⟩
 simp only[rs,h3,decide_true,fa_o3,ob_s ho 1 rfl,ob_s ho 0 rfl,Bool.true_and] at hK ⊢;by_cases h4:a.s=b.s
 case neg=>simp only[rs,h4,decide_false,Bool.false_and] at hK ⊢;exact hK _ _ ⟨rfl,ho.done⟩
 simp only[rs,h4,decide_true,fa_o4,ob_keys ho 1 rfl,ob_keys ho 0 rfl,Bool.true_and] at hK ⊢;have hkl:=Pl.length_tot a.keys;refine c_told (rtexts_ret ka kb a.keys b.keys w2 (ho.oldSl ha.keys.1) (ho.oldSl hb.keys.1) (by omega)) rfl ho fun w3 ho=>?_;by_cases h5:a.keys=b.keys
 case neg=>simp only[rs,h5,decide_false,Bool.false_and] at hK ⊢;exact hK _ _ ⟨rfl,ho.done⟩
 simp only[rs,h5,decide_true,fa_o5,ob_kids ho 1 rfl,ob_kids ho 0 rfl,Bool.true_and] at hK ⊢;refine c_told (rlist_ret w3 (ha.in_ ho) (hb.in_ ho) (by omega) ?_) rfl ho fun w4 ho=>?_
 ·intro i hi hj x y W hx hy;have:=kid_wt hi;exact ih _ _ x y W (by omega) (by omega) hx hy
 exact hK _ _ ⟨rfl,ho.done⟩
end
end Go.Proofs.YtjloddgofmdmgaaGreatDoor






namespace Go.Proofs.YtjloddgofmdmgaaGreatDoor
section
open Go
namespace Ps
open Lx (next Tok Single)
open Wr (num parts partsL partsD)
def At (s:List UInt8)(a:Int)(p:List UInt8)(b:Int):Prop:=∃(x:Tok) (a':Int),Single p x∧next s a=({ x with a:=a',t:=b },0)
def Toks (s:List UInt8):Int→List (List UInt8)→Int→Prop
|a,[],b=>a=b
|a,p::ps,b=>∃c,At s a p c∧Toks s c ps b
end Ps
end
end Go.Proofs.YtjloddgofmdmgaaGreatDoor

namespace Go.Proofs.YtjloddgofmdmgaaGreatDoor
section
open Go
namespace Lx
open Oc
structure Form (x:Tok):Prop where
 int:x.k=1→-2147483647≤x.n∧x.n≤2147483647
 real:x.k=2→Fx.okB x.n=true
 str:x.s.length≤32767
 name:x.k=4→Vl.name x.s=true
 kind:x.k=0∨x.k=1∨x.k=2∨x.k=3∨x.k=4∨x.k=5∨x.k=6
theorem none_form:Form none_:=⟨fun e=>by simp[none_] at e,fun e=>by simp[none_] at e,by simp[none_],fun e=>by simp[none_] at e,.inl rfl⟩
theorem told_form {k a t:Int}{x:List UInt8}{m:Int}(h:(told k a t x m).2=0)(hm:m≤32767)(hk:k=3∨k=4∨k=5)(hn:k=4→m≤127∧(0:UInt8) ∉ x):Form (told k a t x m).1:=by
 have e:=told_ok h;unfold told at h;split at h
 ·simp[refused] at h
 rename_i hx
 rw[e];refine⟨?_,?_,?_,?_,?_⟩
 ·intro h1;simp only at h1;omega
 ·intro h1;simp only at h1;omega
 ·show x.length≤_;omega
 ·intro h1;obtain⟨h2,h3⟩:=hn h1;show Vl.name x=true;unfold Vl.name;simp only[Bool.and_eq_true,decide_eq_true_eq];exact⟨by omega,h3⟩
 ·show k=0∨k=1∨k=2∨k=3∨k=4∨k=5∨k=6;omega
theorem regular_pos:∀c:UInt8,regular c=true→c≠0:=all8 (by decide +kernel)
theorem byte_pos (a b:UInt8):¬(digit a < 0)→¬(digit b < 0)→¬(16*digit a+digit b=0)→byte (digit a) (digit b)≠0:=by
 have hd:∀c:UInt8,digit c≤15:=all8 (by decide +kernel);intro h1 h2 h3 h4;have ha:=hd a;have hb:=hd b;unfold byte at h4;have h5:=congrArg UInt8.toNat h4;rw[UInt8.toNat_ofNat_of_lt' (by show _ < 256;omega)] at h5;have:(0:UInt8).toNat=0:=rfl;omega
theorem nameF_pos (n:Nat):∀(l x:List UInt8),l.length≤n→l.all regular=true→nameF l=some x→(0:UInt8) ∉ x:=by
 induction n with
|zero=>
  intro l x hl _ h;cases l with
 |nil=>simp[nameF] at h;subst h;simp
 |cons _ _=>simp at hl
|succ n ih=>
  intro l x hl hr h;cases l with
 |nil=>simp[nameF] at h;subst h;simp
 |cons c t=>
   simp only[List.all_cons,Bool.and_eq_true] at hr;by_cases hc:c=35
   ·subst hc
    match t,hl,hr,h with
   |[],_,_,h=>simp[nameF] at h
   |[a],_,_,h=>simp[nameF] at h
   |a::b::t,hl,hr,h=>
     simp only[nameF,if_true] at h;split at h
     ·cases h
     ·rename_i hh
      simp only[not_or] at hh;obtain⟨y,hy,rfl⟩:=map_some h;have h1:(0:UInt8) ∉ y:=ih t y (by simp at hl;omega) (by simp at hr ⊢;exact hr.2.2.2) hy;have h2:=byte_pos a b hh.1 hh.2.1 hh.2.2;simp only[List.mem_cons,not_or];exact⟨fun e=>h2 e.symm,h1⟩
   ·rw[nameF_ne hc] at h;obtain⟨y,hy,rfl⟩:=map_some h;have h1:(0:UInt8) ∉ y:=ih t y (by simpa using hl) hr.2 hy;simp only[List.mem_cons,not_or];exact⟨fun e=>regular_pos c hr.1 e.symm,h1⟩
theorem runF_reg:∀l:List UInt8,(l.take (runF l)).all regular=true:=fun l=>(runF_take l).1
theorem cut_run (s:List UInt8)(i:Nat):(cut s i (run s i)).all regular=true:=by
 unfold cut run;rw[Nat.add_sub_cancel_left];exact runF_reg _
theorem wordT_form {t:List UInt8}{a b:Int}(h:(wordT t a b).2=0):Form (wordT t a b).1:=by
 unfold wordT at h ⊢;split at h
 ·rename_i h1
  rw[if_pos h1];split at h
  ·rename_i h2;simp[refused] at h;exact absurd h h2
  rename_i h2
  rw[if_neg h2];have h2:=Classical.not_not.1 h2;refine⟨fun _=>?_,fun e=>?_,by simp,fun e=>?_,.inr (.inl rfl)⟩
  ·unfold whole at h2 ⊢;split at h2
   ·simp at h2
   ·rename_i h3
    rw[if_neg h3];simp only;split<;>omega
  ·simp at e
  ·simp at e
 rename_i h1
 rw[if_neg h1];split at h
 ·rename_i h2
  rw[if_pos h2];refine⟨fun e=>?_,fun _=>?_,by simp,fun e=>?_,.inr (.inr (.inl rfl))⟩
  ·simp at e
  ·have h3:=h2.2;show Fx.okB (Fx.read t).1=true;unfold Fx.read at h3 ⊢;split at h3
   ·rename_i h4
    rw[if_pos h4];split at h3
    ·simp at h3
    ·rename_i h5
     rw[if_neg h5];generalize (if Fx.minus t=true then -Fx.mag t else Fx.mag t)=q at h3 ⊢;unfold Fx.ans at h3 ⊢;cases hq:Fx.okB q with
    |true=>rw[if_pos rfl];exact hq
    |false=>rw[hq] at h3;simp at h3
   ·simp at h3
  ·simp at e
 rename_i h2
 rw[if_neg h2];split at h
 ·simp[refused] at h
 rename_i h3
 rw[if_neg h3];exact told_form h (by decide) (by decide) (fun h=>absurd h (by decide))
theorem mark_form (s:List UInt8)(a n:Nat)(hn:n≤2):Form (mark s a n).1:=by
 refine⟨fun e=>?_,fun e=>?_,?_,fun e=>?_,by simp[mark]⟩
 ·simp[mark] at e
 ·simp[mark] at e
 ·show (cut s a (a+n)).length≤_;unfold cut;rw[List.length_take];omega
 ·simp[mark] at e
theorem token_form {s:List UInt8}{a:Nat}(h:(token s a).2=0):Form (token s a).1:=by
 unfold token at h ⊢;split at h
 ·exact⟨fun e=>by simp at e,fun e=>by simp at e,by simp,fun e=>by simp at e,.inl rfl⟩
 rename_i c t hd
 split at h
 ·rename_i h1;rw[if_pos h1];exact mark_form s a 1 (by omega)
 rename_i h1;rw[if_neg h1]
 split at h
 ·rename_i h2;rw[if_pos h2]
  split at h
  ·rename_i h3;rw[if_pos h3];exact mark_form s a 2 (by omega)
  ·rename_i h3;rw[if_neg h3]
   unfold hex at h ⊢;split at h
   ·exact none_form
   ·exact told_form h (by decide) (by decide) (fun h=>absurd h (by decide))
 rename_i h2;rw[if_neg h2]
 split at h
 ·rename_i h3;rw[if_pos h3]
  split at h
  ·rename_i h4;rw[if_pos h4];exact mark_form s a 2 (by omega)
  ·simp[refused] at h
 rename_i h3;rw[if_neg h3]
 split at h
 ·rename_i h4;rw[if_pos h4]
  unfold name at h ⊢;split at h
  ·simp[refused] at h
  ·rename_i x hx
   refine told_form h (by decide) (by decide) (fun _=>⟨by decide,nameF_pos _ _ _ (Nat.le_refl _) (cut_run s (a+1)) hx⟩)
 rename_i h4;rw[if_neg h4]
 split at h
 ·rename_i h5;rw[if_pos h5]
  unfold text at h ⊢;split at h
  ·simp[refused] at h
  ·exact told_form h (by decide) (by decide) (fun h=>absurd h (by decide))
 rename_i h5;rw[if_neg h5]
 split at h
 ·simp[refused] at h
 rename_i h6;rw[if_neg h6]
 exact wordT_form h
theorem next_form {s:List UInt8}{i:Int}(h:(next s i).2=0):Form (next s i).1:=by
 unfold next at h ⊢
 split at h
 ·simp[refused] at h
 rename_i h1
 rw[if_neg h1];exact token_form h
end Lx
end
section
open Go
namespace Ps
open Lx (next Tok)
theorem obj_open {s:List UInt8}{n:Nat}{a:Int}(h:(obj s n a).2.2=0):(next s a).2=0∧(next s a).1.k≠0∧begins (next s a).1=true∧∃m,n=m+1 ∧
  obj s n a=if (next s a).1.k≠6 then leaf s (next s a).1 else if (next s a).1.s=[91] then arr s (decide (m≠0)) (obj s m) (s.length+1) (next s a).1.t [] else dict s (obj s m) (s.length+1) (next s a).1.t dict0 []:=by
 cases n with
|zero=>
  rw[obj] at h;split at h
  ·rename_i h1;exact absurd h h1
  split at h
  ·simp[bad] at h
  split at h
  ·simp[bad] at h
  ·simp[bad] at h
|succ n=>
  rw[obj] at h;split at h
  ·rename_i h1;exact absurd h h1
  rename_i h1
  split at h
  ·simp[bad] at h
  rename_i h2
  split at h
  ·simp[bad] at h
  rename_i h3
  refine⟨Classical.not_not.1 h1,h2,by simpa using h3,n,rfl,?_⟩;rw[obj,if_neg h1,if_neg h2,if_neg h3]
theorem put_mem {o v:Ob}{key:List UInt8}:(∀k∈(Vl.put o key v).keys,k=key∨k∈o.keys)∧(∀c∈(Vl.put o key v).kids,c=v∨c∈o.kids)∧(Vl.put o key v).kids.length≤o.kids.length+1:=by
 unfold Vl.put;simp only[Ob.keys,Ob.kids];refine⟨fun k hk=>?_,fun c hc=>?_,?_⟩
 ·rcases List.mem_append.1 hk with h|h
  ·exact .inr (List.mem_of_mem_take h)
  ·rcases List.mem_cons.1 h with h|h
   ·exact .inl h
   ·exact .inr (List.mem_of_mem_drop h)
 ·rcases List.mem_append.1 hc with h|h
  ·exact .inr (List.mem_of_mem_take h)
  ·rcases List.mem_cons.1 h with h|h
   ·exact .inl h
   ·exact .inr (List.mem_of_mem_drop h)
 ·simp only[List.length_append,List.length_take,List.length_cons,List.length_drop];split<;>omega
theorem leaf_wt {s:List UInt8}{a:Int}(h0:(next s a).2=0):(leaf s (next s a).1).1.wt≤32773:=by
 have f:=(Lx.next_form h0).str;unfold leaf
 (repeat' split)<;>simp[Ob.wt,Ob.wts,Pl.tot,Vl.ob0]<;>omega
def GoodW (sub:Int→R):Prop:=∀a,(sub a).2.2=0→((sub a).1.wt:Int)≤40000*((sub a).2.1 - a)
theorem arr_wt {s:List UInt8}{ok:Bool}{sub:Int→R}(hg:GoodW sub)(hb:Good s sub)(a0:Int):∀(m:Nat) (a:Int) (acc:List Ob),(Ob.wts acc:Int)≤40000*(a - a0)→(arr s ok sub m a acc).2.2=0→((arr s ok sub m a acc).1.wt:Int)≤6+40000*((arr s ok sub m a acc).2.1 - a0)
|0,a,acc,_,h=>by simp[arr,bad] at h
|m+1,a,acc,hw,h=>by
  rw[arr] at h ⊢;split at h
  ·rename_i h1
   rw[if_pos h1];have b:=Lx.next_bd h1.1 (by rw[h1.2.1];decide);have:=Lx.skip_ge s a.toNat;simp[Ob.wt,Pl.tot];omega
  rename_i h1
  rw[if_neg h1];split at h
  ·simp[bad] at h
  rename_i h2
  rw[if_neg h2];split at h
  ·rename_i h3;exact absurd h h3
  rename_i h3
  rw[if_neg h3];split at h
  ·rename_i h4;exact absurd h h4
  rename_i h4
  rw[if_neg h4];have h4:=Classical.not_not.1 h4;have g:=hg a h4;exact arr_wt hg hb a0 m _ _ (by rw[Vl.wts_app,Ob.wts,Ob.wts];omega) h
theorem join_wt {o v:Ob}{key:List UInt8}:(join o key v).wt≤o.wt+(key.length+1)+v.wt:=by
 unfold join;split
 ·exact Vl.put_wt o key v
 ·omega
theorem dict_wt {s:List UInt8}{sub:Int→R}(hg:GoodW sub)(hb:Good s sub)(a0:Int):∀(m:Nat) (a:Int) (o:Ob) (met:List (List UInt8)),(o.wt:Int)≤6+40000*(a - a0)→(dict s sub m a o met).2.2=0→((dict s sub m a o met).1.wt:Int)≤6+40000*((dict s sub m a o met).2.1 - a0)
|0,a,o,met,_,h=>by simp[dict,bad] at h
|m+1,a,o,met,hw,h=>by
  rw[dict] at h ⊢;split at h
  ·rename_i h1;exact absurd h h1
  rename_i h1
  rw[if_neg h1];have h1:=Classical.not_not.1 h1;split at h
  ·rename_i h2
   rw[if_pos h2];have b:=Lx.next_bd h1 (by rw[h2.1];decide);have:=Lx.skip_ge s a.toNat;simp only;omega
  rename_i h2
  rw[if_neg h2];split at h
  ·simp[bad] at h
  rename_i h3
  rw[if_neg h3];split at h
  ·simp[bad] at h
  rename_i h4
  rw[if_neg h4];split at h
  ·simp[bad] at h
  rename_i h5
  rw[if_neg h5];split at h
  ·simp[bad] at h
  rename_i h6
  rw[if_neg h6];split at h
  ·rename_i h7;exact absurd h h7
  rename_i h7
  rw[if_neg h7];have h7:=Classical.not_not.1 h7;have g:=hg _ h7;have b:=Lx.next_bd h1 h3;have:=Lx.skip_ge s a.toNat;have f:=(Lx.next_form h1).str;have hj:=join_wt (o:=o) (key:=(next s a).1.s) (v:=(sub (next s a).1.t).1);exact dict_wt hg hb a0 m _ _ _ (by omega) h
theorem obj_wt (s:List UInt8):∀n,GoodW (obj s n):=by
 intro n
 induction n with
|zero=>
  intro a h;obtain⟨_,_,_,m,hm,_⟩:=obj_open h;omega
|succ n ih=>
  intro a h;obtain⟨h1,h2,h3,m,hm,he⟩:=obj_open h;have hm:n=m:=by omega
  subst hm;rw[he] at h ⊢;have b:=Lx.next_bd h1 h2;have:=Lx.skip_ge s a.toNat;split at h
  ·rename_i h4
   rw[if_pos h4];have:=leaf_wt h1;have:=leaf_bd h1 h2;omega
  rename_i h4
  rw[if_neg h4];split at h
  ·rename_i h5
   rw[if_pos h5];have:=arr_wt (ok:=decide (n≠0)) ih (obj_good s n) (next s a).1.t (s.length+1) (next s a).1.t [] (by simp[Ob.wts]) h;omega
  ·rename_i h5
   rw[if_neg h5];have:=dict_wt ih (obj_good s n) (next s a).1.t (s.length+1) (next s a).1.t dict0 [] (by simp[dict0,Ob.wt,Ob.wts,Pl.tot]) h;omega
end Ps
end
section
open Eng Go.RowKit
structure DictS (o:Ob) (met:List (List UInt8)):Prop where
 k:o.k=7
 rise:Vl.Rise o.keys
 len:o.keys.length=o.kids.length
 sub:∀k∈o.keys,k∈met
 few:o.kids.length≤met.length
theorem dictS_join {o v:Ob}{met:List (List UInt8)}{key:List UInt8}(h:DictS o met)(hn:key ∉ met):DictS (Ps.join o key v) (met++[key]):=by
 unfold Ps.join;split
 ·obtain⟨p1,p2,p3⟩:=Ps.put_mem (o:=o) (v:=v) (key:=key);obtain⟨r1,r2⟩:=Vl.rise_put (v:=v) h.rise h.len (key:=key);refine⟨h.k,r1,r2,fun k hk=>?_,by have:=h.few;simp;omega⟩;rcases p1 k hk with h1|h1
  ·simp[h1]
  ·exact List.mem_append_left _ (h.sub k h1)
 ·exact⟨h.k,h.rise,h.len,fun k hk=>List.mem_append_left _ (h.sub k hk),by have:=h.few;simp;omega⟩
abbrev dictL (b9 b6:Nat)(o:Ob)(vk vc vm:Value)(met:List (List UInt8))(n:Nat)(cs:List Value)(N:Mem):List Ent:=[obE b9 o vk vc,obE b6 ob0 nilS nilS,keyE vm met,keyE vk o.keys,kidE vc n cs,.mem N]
theorem rdict06_ret (s:List UInt8)(n:Nat)(hn:n≤23)(hs:s.length≤1000000000)(hsub:RObj s n)(a:Int)(h0:0≤a)(h1:a≤s.length)(M:Mem)(w:World)(hM:M.has w) :
  RetM prog 81 #[.string ⟨s.toArray⟩,.int .i64 a,.int .i64 (24 - (n:Int))] M w (objR (Ps.dict s (Ps.obj s n) (s.length+1) a Ps.dict0 [])):=by
 refine retM_of hM fun K hK=>S_foliantref06_dict_ok ?_;unfold S_foliantref06_dict;have ho:=(((OwnS.memS hM).nilU 27 6).nilU 9 1).nilU 9 1;refine o_oba ho fun b6 w1 ho=>?_;have hb6:∀{PK:PKT} {K:VWP},DoX prog (mBuild 27 #[(0,(.int .i64 7))]) w1 PK K=K (obV Ps.dict0 nilS nilS) w1:=do_eq (by kernel_rfl);rw[hb6];refine o_oba ho fun b9 w2 ho=>?_;refine ob_put (o':=Ps.dict0) (vk':=nilS) (vc':=nilS) 0 rfl rfl ho rfl fun w3 ho=>?_;have ho:OwnS M.A w w3 (dictL b9 b6 Ps.dict0 nilS nilS nilS [] 0 [] M):=ho;generalize hR:Ps.dict s (Ps.obj s n) (s.length+1) a Ps.dict0 []=R at *;refine loop (fun vs w'=>∃(a':Int) (m:Nat) (o:Ob) (met:List (List UInt8)) (cs:List Value) (vk vc vm:Value) (N:Mem),vs=[.int .i64 a',.int .i64 0,.int .i64 0,vm]∧0≤a'∧a'≤s.length∧(met.length:Int)≤a'∧met.length+m=s.length+1 ∧
   Ps.dict s (Ps.obj s n) m a' o met=R∧M.le N∧OVs N.A N.w cs o.kids∧DictS o met ∧
   OwnS M.A w w' (dictL b9 b6 o vk vc vm met o.kids.length cs N)) (fun vs _=>s.length - n0 vs)
  ⟨a,s.length+1,Ps.dict0,[],[],nilS,nilS,nilS,M,rfl,h0,h1,by simpa using h0,by simp,hR,M.le_refl,OVs.nil,⟨rfl,List.Pairwise.nil,rfl,by simp[Ps.dict0,Ob.keys],by simp[Ps.dict0,Ob.kids]⟩,ho⟩ ?_
 clear ho hR;rintro vs w4 ⟨a',m,o,met,cs,vk,vc,vm,N,rfl,ha0,ha1,hla,hml,hdict,hle,hall,hds,ho⟩ _;simp only[S_foliantref06_dict_0,gd];obtain⟨m,rfl⟩:∃k,m=k+1:=⟨m - 1,by omega⟩;rw[Ps.dict] at hdict;refine tk_new ho (rnext_ret s a' w4 (by omega)) fun b11 w5 ho=>?_;have hvk:=urow_one (ho.at_ 4 rfl);have hvc:=urow_one (ho.at_ 5 rfl);have hbd:=@Lx.next_bd s a';have hge:=Lx.skip_ge s a'.toNat;generalize Lx.next s a'=x at *
 -- an error ends the loop
 have fail:∀{W:World} {L:List Ent} {N':Mem} (i j:Nat) (e:Int) {o:Ob} {vk vc:Value},OwnS M.A w W L→L[i]?=some (obE b6 o vk vc)→L[j]?=some (.mem N')→(∀x,(L.set i x)[j]?=some (.mem N'))→M.le N'→Ps.bad e=R →
   DoX prog (mBuild 27 #[]) W (pk K) (fun t W=>DoX prog (mStore 27 (.pointer (some ⟨b6,0,none⟩)) t) W (pk K) fun _ W=>RetX prog [.cell (.pointer (some ⟨b6,0,none⟩)) 27,.val (.int .i64 0),.val (.int .i64 e)] W K):=by
  intro W L N' i j e o vk vc ho hi hj hs hle he;refine ret_bad i ho hi fun w' ho=>?_;refine hK _ _ N' _ j ho (hs _) hle ?_;rw[←he];exact⟨_,rfl,ob0_ov2⟩
 have ho:OwnS M.A w w5 (tokE b11 x.1::dictL b9 b6 o vk vc vm met o.kids.length cs N):=ho;simp only[rs];by_cases e1:x.2=0
 case neg=>
  rw[if_pos e1] at hdict;simp only[e1,ne_eq,not_false_eq_true,decide_true,rs];exact fail 2 6 _ ho rfl rfl (fun _=>rfl) hle hdict
 rw[if_neg (by rw[e1];simp)] at hdict;simp only[e1,ne_eq,not_true,decide_false,rs,fa_t0,tk_k ho 0 rfl];by_cases e2:x.1.k=6∧x.1.s=[62,62]
 ·rw[if_pos e2] at hdict;simp only[decide_eq_true e2.1,rs,fa_t4',tk_s ho 0 rfl,decide_eq_true e2.2];have ho:=ho.drew;refine⟨fun W=>(obE b9 o vk vc).is W∧(tokE b11 x.1).is W,⟨ho.at_ 1 rfl,ho.at_ 0 rfl⟩,?_⟩;refine hd_do (obV o vk vc) (fun W h=>run_load_at (AtV.agg aggOb (cs:=obC o vk vc) rfl fun j u hj=>by rw[Nat.zero_add];exact cells_cell (T:=27) h.1 hj)) ?_;refine hd_pure _ (fun _=>run_fa ft2) ?_;refine hd_do (.int .i64 x.1.t) (fun W h=>run_load_cell nInt (cells_cell (T:=90) (cs:=tokC x.1) (i:=2) h.2 rfl)) ?_;refine ob_put 2 hvk hvc ho rfl fun w6 ho=>⟨⟨ho.at_ 1 rfl,ho.at_ 0 rfl⟩,?_⟩;have ho:OwnS M.A w w6 ([tokE b11 x.1,obE b9 o vk vc,obE b6 o vk vc,keyE vm met]++([keyE vk o.keys,kidE vc o.kids.length cs]++[.mem N])):=ho;have ho:=ho.front;have ho:OwnS M.A w w6 [keyE vk o.keys,kidE vc o.kids.length cs,tokE b11 x.1,obE b9 o vk vc,obE b6 o vk vc,keyE vm met,.mem N]:=ho;obtain⟨N2,hle2,hrow,ho⟩:=OwnS.freezeU (L:=[kidE vc o.kids.length cs,tokE b11 x.1,obE b9 o vk vc,obE b6 o vk vc,keyE vm met,.mem N]) ho 5 rfl;obtain⟨N3,hle3,hrow3,ho⟩:=OwnS.freezeU (L:=[tokE b11 x.1,obE b9 o vk vc,obE b6 o vk vc,keyE vm met,.mem N2]) ho 4 rfl;refine ret_v3 (rv_cell (ho.agg 2 rfl aggOb)) rv_val rv_val (hK _ _ N3 _ 4 ho rfl ((hle.trans hle2).trans hle3) ?_);rw[←hdict];exact⟨_,rfl,ObAt.ov ⟨hrow.le hle3,hrow3,(hall.le hle2).le hle3⟩⟩
 rw[if_neg e2] at hdict
 -- no end
 have on:IfX (.bool (decide (x.1.k=0))) (DoX prog (mBuild 27 #[]) w5 (pk K) fun t41 w=>
 DoX prog (mStore 27 (.pointer (some ⟨b6,0,none⟩)) t41) w (pk K) fun _ w=>
 RetX prog [.cell (.pointer (some ⟨b6,0,none⟩)) 27,.val (.int .i64 0),.val (.int .i64 4)] w K) (IfX (.bool (decide (x.1.k≠4))) (DoX prog (mBuild 27 #[]) w5 (pk K) fun t45 w=>
 DoX prog (mStore 27 (.pointer (some ⟨b6,0,none⟩)) t45) w (pk K) fun _ w=>
 RetX prog [.cell (.pointer (some ⟨b6,0,none⟩)) 27,.val (.int .i64 0),.val (.int .i64 3)] w K) (LoopX [.int .i64 0,.int .i64 0,(.int .i64 0)] w5 (fun vs3 W' N3=>∀_:Sg,S_foliantref06_dict_1 (.string ⟨s.toArray⟩) (.int .i64 (24 - (n:Int))) (.pointer (some ⟨b6,0,none⟩)) (vs3.getD 0 undef) (vs3.getD 1 undef) (.pointer (some ⟨b9,0,none⟩)) vm (.pointer (some ⟨b11,0,none⟩)) (vs3.getD 2 undef) W' (NextX (fun vs w'=>∃(a':Int) (m:Nat) (o:Ob) (met:List (List UInt8)) (cs:List Value) (vk vc vm:Value) (N:Mem),vs=[.int .i64 a',.int .i64 0,.int .i64 0,vm]∧0≤a'∧a'≤s.length∧(met.length:Int)≤a'∧met.length+m=s.length+1 ∧
   Ps.dict s (Ps.obj s n) m a' o met=R∧M.le N∧OVs N.A N.w cs o.kids∧DictS o met ∧
   OwnS M.A w w' (dictL b9 b6 o vk vc vm met o.kids.length cs N)) (fun vs _=>s.length - n0 vs) [.int .i64 a',.int .i64 0,.int .i64 0,vm] w4) N3 K))):=by
  by_cases e3:x.1.k=0
  ·rw[if_pos e3] at hdict;simp only[e3,decide_true,i_t];exact fail 2 6 _ ho rfl rfl (fun _=>rfl) hle hdict
  rw[if_neg e3] at hdict;simp only[decide_eq_false e3,i_f];by_cases e4:x.1.k=4
  case neg=>
   rw[if_pos e4] at hdict;simp only[decide_eq_true e4,i_t];exact fail 2 6 _ ho rfl rfl (fun _=>rfl) hle hdict
  rw[if_neg (by rw[e4];simp)] at hdict;simp only[e4,ne_eq,not_true,decide_false,i_f];have hb:=hbd e1 e3;refine loop (fun vs w'=>∃i:Nat,vs=[.int .i64 0,.int .i64 0,.int .i64 i]∧i≤met.length∧(∀j (h:j < met.length),j < i→met[j]≠x.1.s)∧OwnS M.A w w' (tokE b11 x.1::dictL b9 b6 o vk vc vm met o.kids.length cs N)) (fun vs _=>met.length - (RowKit.intOf (vs.getD 2 undef)).toNat) ⟨0,rfl,by omega,fun j _ h=>by omega,ho⟩ ?_;clear ho;rintro vs w6 ⟨i,rfl,hi,hne,ho⟩ _;simp only[S_foliantref06_dict_1,gd];rw[sl_len Tryz.underlying24 (ho.slU 3 rfl)];simp only[rs];by_cases hlt:(i:Int) < (met.length:Int)
  ·have hi':i < met.length:=by omega
   simp only[decide_eq_true hlt,i_t];obtain⟨g,cap,_,ia,ld⟩:=key_row 3 ho rfl hi';refine quiet ?_;refine q_do _ (fun w=>ia w) (q_at _ (fun _ hb=>ld _ ((ho.grow hb).at_ 3 rfl)) (q_do _ (fun _=>run_fa ft4) (q_at _ (fun _ hb=>tkr_s (ho.grow hb) 0 rfl) (q_seq ?_))));intro w7 hbw;have ho:=ho.grow hbw;by_cases he:met[i]=x.1.s
   ·rw[if_pos (show x.1.s∈met from he▸List.getElem_mem hi')] at hdict;simp only[decide_eq_true he,i_t];exact fail 2 6 _ ho rfl rfl (fun _=>rfl) hle hdict
   ·simp only[decide_eq_false he,i_f];rw[wrap64_id (by omega) (by omega)];refine nextX ⟨i+1,rfl,by omega,fun j hj hji=>?_,ho⟩ (by show met.length - Int.toNat ((i:Int)+1) < met.length - Int.toNat (i:Int);omega);rcases Nat.lt_or_ge j i with h|h
    ·exact hne j hj h
    ·have:j=i:=by omega
     subst this;exact he
  have hi':i=met.length:=by omega
  simp only[decide_eq_false hlt,i_f];rw[sl_len Tryz.underlying24 (ho.slU 3 rfl)];simp only[rs];have hnm:x.1.s ∉ met:=fun h=>by
   obtain⟨j,hj,he⟩:=List.getElem_of_mem h;exact hne j hj (by omega) he
  rw[if_neg hnm] at hdict;by_cases e5:met.length=8191
  ·rw[if_pos e5] at hdict;simp only[show (met.length:Int)=8191 by omega,decide_true,i_t];exact fail 2 6 _ ho rfl rfl (fun _=>rfl) hle hdict
  rw[if_neg e5] at hdict;simp only[decide_eq_false (show ¬(met.length:Int)=8191 by omega),i_f,fa_t4',tk_s ho 0 rfl];refine o_strb1 x.1.s ho fun nb w7 ho=>?_;refine o_apS 4 ho rfl (ho.sl 0 rfl 1 1 1 rfl) (by simp[Value.oneCell']) (by omega) fun vm' w8 ho=>?_;have ho:=ho.tail;have ho:OwnS M.A w w8 [tokE b11 x.1,obE b9 o vk vc,obE b6 ob0 nilS nilS,keyE vm' (met++[x.1.s]),keyE vk o.keys,kidE vc o.kids.length cs,.mem N]:=by
   have e:strsV (met++[x.1.s])=strsV met++[.string ⟨x.1.s.toArray⟩]:=by rw[strsV_app];rfl
   rw[keyE,List.length_append,List.length_singleton,e];exact ho
  rw[fa_t2,tk_t ho 0 rfl];rw[wrap64_id (by omega) (by omega),show (24:Int) - n+1=25 - n by omega];refine c_mem ho 6 rfl (hsub x.1.t N w8 (ho.hasM 6 rfl)) ?_;rintro _ N2 w9 hle2 ⟨u,rfl,hu⟩ ho;have hbd2:=@Ps.obj_bd s n x.1.t;generalize Ps.obj s n x.1.t=e at *;obtain⟨xk,xc,xcs,rfl,hx⟩:=hu.open;simp only[ex];refine o_oba ho fun b14 w10 ho=>?_;refine ob_put 0 hx.keys.one hx.kids.one ho rfl fun w11 ho=>?_;have ho:OwnS M.A w w11 [obE b14 e.1 xk xc,tokE b11 x.1,obE b9 o vk vc,obE b6 ob0 nilS nilS,keyE vm' (met++[x.1.s]),keyE vk o.keys,kidE vc o.kids.length cs,.mem N2]:=ho;simp only[rs];by_cases hz:e.2.2=0
  case neg=>
   simp only[hz,ne_eq,not_false_eq_true,decide_true,i_t];rw[if_pos hz] at hdict;exact fail 3 7 _ ho rfl rfl (fun _=>rfl) (hle.trans hle2) hdict
  simp only[hz,ne_eq,not_true,decide_false,i_f];rw[if_neg (by rw[hz];simp)] at hdict;have hb2:=hbd2 hz;have hds2:=dictS_join (v:=e.1) hds hnm;refine join fun J hJ=>?_;have fin:∀{W:World} {vk' vc':Value} {cs':List Value},OVs N2.A N2.w cs' (Ps.join o x.1.s e.1).kids→OwnS M.A w W (dictL b9 b6 (Ps.join o x.1.s e.1) vk' vc' vm' (met++[x.1.s]) (Ps.join o x.1.s e.1).kids.length cs' N2)→J [] W:=by
   intro W vk' vc' cs' hov ho;refine hJ _ _ fun _=>?_;unfold S_foliantref06_dict_2;refine nextX ⟨e.2.1,m,Ps.join o x.1.s e.1,met++[x.1.s],cs',vk',vc',vm',N2,rfl,by omega,hb2.2,by simp;omega,by simp;omega,hdict,hle.trans hle2,hov,hds2,ho⟩ (by show s.length - Int.toNat e.2.1 < s.length - Int.toNat a';omega)
  rw[fa_o0,ob_k ho 0 rfl];simp only[rs];by_cases hk:e.1.k=0
  ·simp only[hk,ne_eq,not_true,decide_false,i_f];have ej:Ps.join o x.1.s e.1=o:=by unfold Ps.join;rw[if_neg (by rw[hk];simp)]
   rw[ej] at fin;exact fin (hall.le hle2) ho.tail.tail
  simp only[ne_eq,hk,not_false_eq_true,decide_true,i_t];have ej:Ps.join o x.1.s e.1=Vl.put o x.1.s e.1:=by unfold Ps.join;rw[if_pos hk]
  rw[ej] at fin;rw[ob_v ho 2 rfl,tk_s ho 1 rfl,ob_v ho 0 rfl];have ho:OwnS M.A w w11 ([obE b14 e.1 xk xc,tokE b11 x.1,obE b9 o vk vc,obE b6 ob0 nilS nilS,keyE vm' (met++[x.1.s])]++([keyE vk o.keys,kidE vc o.kids.length cs]++[.mem N2])):=ho;have ho:=ho.front.pair;refine c_ret (rput06_ret o e.1 vk vc xk xc cs x.1.s N2.A N2.w w11 hds.len (hall.le hle2) hx.ov (by have:=hds.few;omega) hds.rise (fun h=>hnm (hds.sub _ h)) (ho.at_ 0 rfl)) ?_;rintro _ w12 ⟨vk',vc',cs',rfl,hov,ht⟩;have ho:=(ho.turn 0 rfl ht).split;have ho:OwnS M.A w w12 ([keyE vk' (Vl.put o x.1.s e.1).keys,kidE vc' (Vl.put o x.1.s e.1).kids.length cs']++([obE b14 e.1 xk xc,tokE b11 x.1,obE b9 o vk vc,obE b6 ob0 nilS nilS,keyE vm' (met++[x.1.s])]++[.mem N2])):=ho;have hvk':=urow_one (ho.at_ 0 rfl);have hvc':=urow_one (ho.at_ 1 rfl);have ho:=ho.front;refine ob_put (o':=Vl.put o x.1.s e.1) 2 hvk' hvc' ho rfl fun w13 ho=>?_;exact fin hov ho.tail.tail
 by_cases e3:x.1.k=6
 ·have e4:¬x.1.s=[62,62]:=fun h=>e2 ⟨e3,h⟩;simp only[decide_eq_true e3,rs,fa_t4',tk_s ho 0 rfl,decide_eq_false e4,fa_t0,tk_k ho 0 rfl];exact on
 ·simp only[decide_eq_false e3,rs,g_un,fa_t0,tk_k ho 0 rfl];exact on
end
section
open Eng Go.RowKit
theorem run_seqs {T:TypeId}{xo yo:Operand}{a b:List UInt8}{w:World}:(mEq .eql T xo yo (.string ⟨a.toArray⟩) (.string ⟨b.toArray⟩)).run prog w=.ok (.value (.bool (decide (a=b)))) w:=by
 refine mv_run ?_;have e:(a==b)=decide (a=b):=by by_cases h:a=b<;>simp[h]
 simp[eqGuard,binOp,Op.stringOp,str_toList,e]
theorem rbool05_ret (b:Bool)(w:World):Ret prog 79 #[.bool b] w (obR (ob1 1 (if b then 1 else 0) 0 []) nilS nilS w):=by
 refine ret_of fun K hK=>S_foliantref05_Bool_ok ?_;unfold S_foliantref05_Bool;refine o_oba (Own.start w) fun b2 w1 ho=>?_;cases b with
|true=>
  rw[i_t];have hb:∀{PK:PKT} {K:VWP},DoX prog (mBuild 27 #[(0,(.int .i64 1)),(1,(.int .i64 1))]) w1 PK K=K (obV (ob1 1 1 0 []) nilS nilS) w1:=do_eq (by kernel_rfl);rw[hb];refine ob_put 0 rfl rfl ho rfl fun w2 ho=>?_;exact ret_ob ho (hK _ _ ⟨rfl,ho.done⟩)
|false=>
  rw[i_f];have hb:∀{PK:PKT} {K:VWP},DoX prog (mBuild 27 #[(0,(.int .i64 1))]) w1 PK K=K (obV (ob1 1 0 0 []) nilS nilS) w1:=do_eq (by kernel_rfl);rw[hb];refine ob_put 0 rfl rfl ho rfl fun w2 ho=>?_;exact ret_ob ho (hK _ _ ⟨rfl,ho.done⟩)
theorem ob1_ov2 {A:Nat→Prop}{w:World}{k n g:Int}{s:List UInt8}:OV A w (obV (ob1 k n g s) nilS nilS) (ob1 k n g s):=ObAt.ov (o:=ob1 k n g s) ⟨SlA.nil _ _ _ _,SlA.nil _ _ _ _,OVs.nil⟩
theorem robj06_ret (s:List UInt8)(hs:s.length≤1000000000):∀n:Nat,n≤24→RObj s n:=by
 intro n
 induction n with
|zero=>
  intro _ a M w hM;refine retM_of hM fun K hK=>S_foliantref06_object_ok ?_;unfold S_foliantref06_object;refine o_oba (OwnS.memS hM) fun b6 w1 ho=>?_;refine tk_new ho (rnext_ret s a w1 (by omega)) fun b9 w2 ho=>?_;have fail:∀{W:World} (e:Int),OwnS M.A w W [tokE b9 (Lx.next s a).1,obE b6 ob0 nilS nilS,.mem M]→Ps.obj s 0 a=Ps.bad e →
    DoX prog (mBuild 27 #[]) W (pk K) (fun t W=>DoX prog (mStore 27 (.pointer (some ⟨b6,0,none⟩)) t) W (pk K) fun _ W=>RetX prog [.cell (.pointer (some ⟨b6,0,none⟩)) 27,.val (.int .i64 0),.val (.int .i64 e)] W K):=by
   intro W e ho he;refine ret_bad 1 ho rfl fun w' ho=>?_;refine hK _ _ M _ 2 ho rfl M.le_refl ?_;rw[he];exact⟨_,rfl,ob0_ov2⟩
  rw[Ps.obj] at fail;generalize Lx.next s a=x at *
  simp only[rs];by_cases e1:x.2=0
  case neg=>
   simp only[e1,ne_eq,not_false_eq_true,decide_true,rs];exact fail _ ho (if_pos e1)
  simp only[e1,ne_eq,not_true,decide_false,rs,fa_t0,tk_k ho 0 rfl];by_cases e2:x.1.k=0
  ·simp only[decide_eq_true e2,rs];exact fail 4 ho (by rw[if_neg (by rw[e1];simp),if_pos e2])
  simp only[decide_eq_false e2,rs,tk_v ho 0 rfl];refine c_below ho (R:=fun v=>v=.bool (Ps.begins x.1)) (rfirst_ret x.1 w2) ?_;rintro _ w3 rfl ho;cases e3:Ps.begins x.1 with
 |false=>
   simp only[rs,Bool.not_false,i_t];exact fail 3 ho (by rw[if_neg (by rw[e1];simp),if_neg e2,if_pos e3])
 |true=>
   simp only[rs,Bool.not_true,i_f,show decide ((24:Int) < 25 - ((0:Nat):Int))=true by decide];exact fail 7 ho (by rw[if_neg (by rw[e1];simp),if_neg e2,if_neg (by rw[e3];simp)])
|succ n ih=>
  intro hn a M w hM;have ih:=ih (by omega);refine retM_of hM fun K hK=>S_foliantref06_object_ok ?_;unfold S_foliantref06_object;refine o_oba (OwnS.memS hM) fun b6 w1 ho=>?_;refine tk_new ho (rnext_ret s a w1 (by omega)) fun b9 w2 ho=>?_;have fail:∀{W:World} (e:Int),OwnS M.A w W [tokE b9 (Lx.next s a).1,obE b6 ob0 nilS nilS,.mem M]→Ps.obj s (n+1) a=Ps.bad e →
    DoX prog (mBuild 27 #[]) W (pk K) (fun t W=>DoX prog (mStore 27 (.pointer (some ⟨b6,0,none⟩)) t) W (pk K) fun _ W=>RetX prog [.cell (.pointer (some ⟨b6,0,none⟩)) 27,.val (.int .i64 0),.val (.int .i64 e)] W K):=by
   intro W e ho he;refine ret_bad 1 ho rfl fun w' ho=>?_;refine hK _ _ M _ 2 ho rfl M.le_refl ?_;rw[he];exact⟨_,rfl,ob0_ov2⟩
  have good:∀{W:World} {k m g t:Int} {z:List UInt8},OwnS M.A w W [tokE b9 (Lx.next s a).1,obE b6 (ob1 k m g z) nilS nilS,.mem M]→Ps.obj s (n+1) a=(ob1 k m g z,t,0) →
    RetX prog [.cell (.pointer (some ⟨b6,0,none⟩)) 27,.val (.int .i64 t),.val (.int .i64 0)] W K:=by
   intro W k m g t z ho he;refine ret_v3 (rv_cell (ho.agg 1 rfl aggOb)) rv_val rv_val (hK _ _ M _ 2 ho rfl M.le_refl ?_);rw[he];exact⟨_,rfl,ob1_ov2⟩
  have hbd:=@Lx.next_bd s a;have hfm:=@Lx.next_form s a;have hob:Ps.obj s (n+1) a=_:=Ps.obj.eq_def s (n+1) a;simp only at hob;rw[hob] at fail good;generalize Lx.next s a=x at *
  simp only[rs];by_cases e1:x.2=0
  case neg=>
   simp only[e1,ne_eq,not_false_eq_true,decide_true,rs];exact fail _ ho (if_pos e1)
  simp only[e1,ne_eq,not_true,decide_false,rs,fa_t0,tk_k ho 0 rfl];by_cases e2:x.1.k=0
  ·simp only[decide_eq_true e2,rs];exact fail 4 ho (by rw[if_neg (by rw[e1];simp),if_pos e2])
  have hbd:=hbd e1 e2;have hfm:=hfm e1;simp only[decide_eq_false e2,rs,tk_v ho 0 rfl];refine c_below ho (R:=fun v=>v=.bool (Ps.begins x.1)) (rfirst_ret x.1 w2) ?_;rintro _ w3 rfl ho;cases e3:Ps.begins x.1 with
 |false=>
   simp only[rs,Bool.not_false,i_t];exact fail 3 ho (by rw[if_neg (by rw[e1];simp),if_neg e2,if_pos e3])
 |true=>
  have hdeep:¬(24:Int) < 25 - ((n+1:Nat):Int):=by omega
  simp only[rs,Bool.not_true,i_f,decide_eq_false hdeep,fa_t0,tk_k ho 0 rfl];simp only[if_neg (show ¬x.2≠0 by rw[e1];simp),if_neg e2,if_neg (show ¬Ps.begins x.1=false by rw[e3];simp)] at fail good hob;have hgood:∀{W:World} {k m g t:Int} {z:List UInt8},x.1.k≠6→OwnS M.A w W [tokE b9 x.1,obE b6 (ob1 k m g z) nilS nilS,.mem M]→Ps.leaf s x.1=(ob1 k m g z,t,0) →
    RetX prog [.cell (.pointer (some ⟨b6,0,none⟩)) 27,.val (.int .i64 t),.val (.int .i64 0)] W K:=fun h ho he=>good ho (by rw[if_pos h];exact he)
  have tail:∀{f:Nat} {args:Array Value} {k m g:Int} {z:List UInt8} {W:World} {PK1 PK2:PKT},x.1.k≠6→OwnS M.A w W [tokE b9 x.1,obE b6 ob0 nilS nilS,.mem M]→Ret prog f args W (obR (ob1 k m g z) nilS nilS W)→Ps.leaf s x.1=(ob1 k m g z,x.1.t,0) →
    CallX prog f args W PK1 fun t W=>(tokE b9 x.1).is W∧(DoX prog (mStore 27 (.pointer (some ⟨b6,0,none⟩)) t) W PK2 fun _ W=>(tokE b9 x.1).is W∧(RetX prog [.cell (.pointer (some ⟨b6,0,none⟩)) 27,.val (.int .i64 x.1.t),.val (.int .i64 0)] W K)):=by
   intro f args k m g z W PK1 PK2 hk ho hr he;refine c_below ho (R:=fun v=>v=obV (ob1 k m g z) nilS nilS) hr ?_;rintro _ W2 rfl ho;refine⟨ho.at_ 0 rfl,?_⟩;exact ob_put 1 rfl rfl ho rfl fun W3 ho=>⟨ho.at_ 0 rfl,hgood hk ho he⟩
  have rdt:∀W,(tokE b9 x.1).is W→(mLoad 3 (.pointer (some ⟨b9,2,none⟩))).run prog W=.ok (.value (.int .i64 x.1.t)) W:=fun W h=>run_load_cell nInt (cells_cell (T:=90) (cs:=tokC x.1) (i:=2) h rfl);have rdn:∀W,(tokE b9 x.1).is W→(mLoad 2 (.pointer (some ⟨b9,3,none⟩))).run prog W=.ok (.value (.int .i64 x.1.n)) W:=fun W h=>run_load_cell nI65 (cells_cell (T:=90) (cs:=tokC x.1) (i:=3) h rfl);have rds:∀W,(tokE b9 x.1).is W→(mLoad 9 (.pointer (some ⟨b9,4,none⟩))).run prog W=.ok (.value (.string ⟨x.1.s.toArray⟩)) W:=fun W h=>run_load_cell nStr (cells_cell (T:=90) (cs:=tokC x.1) (i:=4) h rfl);rcases hfm.kind with k0|k1|k2|k3|k4|k5|k6
  ·exact absurd k0 e2
  ·have hk6:x.1.k≠6:=by omega
   have hleaf:Ps.leaf s x.1=match Ps.ref s x.1 with
   |some p=>(.mk 8 x.1.n p.1 [] [] [],p.2,0)
   |none=>(.mk 2 x.1.n 0 [] [] [],x.1.t,0):=by rw[Ps.leaf,if_pos k1];cases Ps.ref s x.1<;>rfl
   simp only[decide_eq_true k1,i_t,tk_v ho 0 rfl];refine c_below ho (R:=fun v=>∃g e,v=.tuple #[.int .i64 g,.int .i64 e,.bool (Ps.ref s x.1).isSome]∧∀p,Ps.ref s x.1=some p→p=(g,e)) (rtwo_ret s x.1 w3 (by omega)) ?_;rintro _ w4 ⟨g,e,rfl,hp⟩ ho;simp only[ex];cases hr:Ps.ref s x.1 with
  |some p=>
    have:=hp p hr;subst this;rw[hr] at hleaf;simp only[Option.isSome_some,i_t,fa_t3,tk_n ho 0 rfl];refine c_below ho (R:=fun v=>v=obV (ob1 8 x.1.n g []) nilS nilS) (rref05_ret x.1.n g w4) ?_;rintro _ w5 rfl ho;refine ob_put 1 rfl rfl ho rfl fun w6 ho=>?_;exact hgood hk6 ho hleaf
  |none=>
    rw[hr] at hleaf;simp only[Option.isSome_none,i_f];have ho:=ho.drew;refine⟨fun W=>(tokE b9 x.1).is W,ho.at_ 0 rfl,?_⟩;refine hd_pure _ (fun _=>run_fa ft3) (hd_do _ rdn (hd_pure _ (fun _=>run_fa ft2) (hd_do _ rdt ?_)));exact tail hk6 ho (rint05_ret x.1.n _) hleaf
  ·have hk6:x.1.k≠6:=by omega
   simp only[k2,show ¬((2:Int)=1) by decide,decide_true,decide_false,rs];have ho:=ho.drew;refine⟨fun W=>(tokE b9 x.1).is W,ho.at_ 0 rfl,?_⟩;refine hd_pure _ (fun _=>run_fa ft3) (hd_do _ rdn (hd_pure _ (fun _=>run_fa ft2) (hd_do _ rdt ?_)));exact tail hk6 ho (rreal05_ret x.1.n _) (by rw[Ps.leaf,if_neg (by omega),if_pos k2])
  ·have hk6:x.1.k≠6:=by omega
   simp only[k3,show ¬((3:Int)=1) by decide,show ¬((3:Int)=2) by decide,decide_true,decide_false,rs];have ho:=ho.drew;refine⟨fun W=>(tokE b9 x.1).is W,ho.at_ 0 rfl,?_⟩;refine hd_pure _ (fun _=>run_fa ft4) (hd_do _ rds (hd_pure _ (fun _=>run_fa ft2) (hd_do _ rdt ?_)));exact tail hk6 ho (rtxt05_ret x.1.s _) (by rw[Ps.leaf,if_neg (by omega),if_neg (by omega),if_pos k3])
  ·have hk6:x.1.k≠6:=by omega
   simp only[k4,show ¬((4:Int)=1) by decide,show ¬((4:Int)=2) by decide,show ¬((4:Int)=3) by decide,decide_true,decide_false,rs];have ho:=ho.drew;refine⟨fun W=>(tokE b9 x.1).is W,ho.at_ 0 rfl,?_⟩;refine hd_pure _ (fun _=>run_fa ft4) (hd_do _ rds (hd_pure _ (fun _=>run_fa ft2) (hd_do _ rdt ?_)));exact tail hk6 ho (rkey05_ret x.1.s _) (by rw[Ps.leaf,if_neg (by omega),if_neg (by omega),if_neg (by omega),if_pos k4])
  ·have hk6:x.1.k≠6:=by omega
   simp only[k5,show ¬((5:Int)=1) by decide,show ¬((5:Int)=2) by decide,show ¬((5:Int)=3) by decide,show ¬((5:Int)=4) by decide,decide_true,decide_false,rs,fa_t4',tk_s ho 0 rfl];by_cases hn:x.1.s=[110,117,108,108]
   ·simp only[decide_eq_true hn,i_t];have ho:=ho.drew;refine⟨fun W=>(tokE b9 x.1).is W,ho.at_ 0 rfl,?_⟩;refine hd_pure (obV Vl.ob0 nilS nilS) (fun _=>by kernel_rfl) (hd_pure _ (fun _=>run_fa ft2) (hd_do _ rdt ?_));refine ob_put (o':=Vl.ob0) 1 rfl rfl ho rfl fun w5 ho=>⟨ho.at_ 0 rfl,?_⟩;exact hgood (k:=0) (m:=0) (g:=0) (z:=[]) hk6 ho (by rw[Ps.leaf,if_neg (by omega),if_neg (by omega),if_neg (by omega),if_neg (by omega),if_pos (show x.1.s=Ps.nul from hn)];rfl)
   ·simp only[decide_eq_false hn,i_f];have ho:=ho.drew;refine⟨fun W=>(tokE b9 x.1).is W,ho.at_ 0 rfl,?_⟩;refine hd_pure _ (fun _=>run_fa ft4) (hd_do _ rds (hd_pure (.bool (decide (x.1.s=Ps.tru))) (fun _=>run_seqs) (hd_pure _ (fun _=>run_fa ft2) (hd_do _ rdt ?_))));refine tail hk6 ho (rbool05_ret _ _) ?_;rw[Ps.leaf,if_neg (by omega),if_neg (by omega),if_neg (by omega),if_neg (by omega),if_neg (show ¬x.1.s=Ps.nul from hn)];simp only[decide_eq_true_eq]
  ·have hs2:x.1.s=[91]∨x.1.s=[60,60]:=by
    unfold Ps.begins at e3;rw[if_pos k6] at e3;simpa using e3
   simp only[k6,show ¬((6:Int)=1) by decide,show ¬((6:Int)=2) by decide,show ¬((6:Int)=3) by decide,show ¬((6:Int)=4) by decide,show ¬((6:Int)=5) by decide,decide_true,decide_false,rs,fa_t4',tk_s ho 0 rfl];rw[show (25:Int) - ((n+1:Nat):Int)=24 - (n:Int) by omega];have hge:=Lx.skip_ge s a.toNat;have fin:∀{W:World} {N:Mem} {u:Value} {e:Ps.R},(if x.1.s=[91] then Ps.arr s (decide (n≠0)) (Ps.obj s n) (s.length+1) x.1.t [] else Ps.dict s (Ps.obj s n) (s.length+1) x.1.t Ps.dict0 [])=e→M.le N→OV N.A N.w u e.1→OwnS M.A w W [tokE b9 x.1,obE b6 ob0 nilS nilS,.mem N] →
     DoX prog (mStore 27 (.pointer (some ⟨b6,0,none⟩)) u) W (pk K) fun _ w=>RetX prog [.cell (.pointer (some ⟨b6,0,none⟩)) 27,.val (.int .i64 e.2.1),.val (.int .i64 e.2.2)] w K:=by
    intro W N u e he hle hu ho;obtain⟨xk,xc,xcs,rfl,hx⟩:=hu.open;refine ob_put 1 hx.keys.one hx.kids.one ho rfl fun W2 ho=>?_;refine ret_v3 (rv_cell (ho.agg 1 rfl aggOb)) rv_val rv_val (hK _ _ N _ 2 ho rfl hle ?_);rw[hob,if_neg (show ¬x.1.k≠6 by rw[k6];simp),he];exact⟨_,rfl,hx.ov⟩
   rcases hs2 with h2|h2
   ·simp only[decide_eq_true h2,i_t,fa_t2,tk_t ho 0 rfl];refine c_mem ho 2 rfl (rarr06_ret s n (by omega) hs ih x.1.t (by omega) (by omega) M w3 (ho.hasM 2 rfl)) ?_;rintro _ N w4 hle ⟨u,rfl,hu⟩ ho;simp only[ex];exact fin (if_pos h2) hle hu ho
   ·have h91:¬x.1.s=[91]:=by rw[h2];decide
    simp only[decide_eq_false h91,i_f,fa_t2,tk_t ho 0 rfl];refine c_mem ho 2 rfl (rdict06_ret s n (by omega) hs ih x.1.t (by omega) (by omega) M w3 (ho.hasM 2 rfl)) ?_;rintro _ N w4 hle ⟨u,rfl,hu⟩ ho;simp only[ex];exact fin (if_neg h91) hle hu ho
theorem rObject06_ret (s:List UInt8)(a:Int)(hs:s.length≤1000000000)(M:Mem)(w:World)(hM:M.has w):RetM prog 27 #[.string ⟨s.toArray⟩,.int .i64 a] M w (objR (Ps.object s a)):=by
 refine retM_of hM fun K hK=>S_foliantref06_Object_ok ?_;unfold S_foliantref06_Object;refine o_oba (OwnS.memS hM) fun b4 w1 ho=>?_;have fail:a < 0∨(s.length:Int) < a→DoX prog (mBuild 27 #[]) w1 (pk K) (fun t W=>DoX prog (mStore 27 (.pointer (some ⟨b4,0,none⟩)) t) W (pk K) fun _ W=>RetX prog [.cell (.pointer (some ⟨b4,0,none⟩)) 27,.val (.int .i64 0),.val (.int .i64 1)] W K):=by
  intro h;refine ret_bad 0 ho rfl fun w' ho=>?_;refine hK _ _ M _ 1 ho rfl M.le_refl ?_;rw[Ps.object,if_pos h];exact⟨_,rfl,ob0_ov2⟩
 by_cases h1:a < 0
 ·simp only[rs,decide_eq_true h1,g_un];exact fail (.inl h1)
 by_cases h2:(s.length:Int) < a
 ·simp only[rs,decide_eq_false h1,s_len Tryz.underlying9,decide_eq_true h2,g_un];exact fail (.inr h2)
 simp only[rs,decide_eq_false h1,s_len Tryz.underlying9,decide_eq_false h2,g_un];refine c_mem ho 1 rfl (robj06_ret s hs 24 (by omega) a M w1 (ho.hasM 1 rfl)) ?_;rintro _ N w2 hle ⟨u,rfl,hu⟩ ho;obtain⟨xk,xc,xcs,rfl,hx⟩:=hu.open;simp only[ex];refine ob_put 0 hx.keys.one hx.kids.one ho rfl fun w3 ho=>?_;refine ret_v3 (rv_cell (ho.agg 0 rfl aggOb)) rv_val rv_val (hK _ _ N _ 1 ho rfl hle ?_);rw[Ps.object,if_neg (by omega)];exact⟨_,rfl,hx.ov⟩
end
section
open Eng Go.RowKit
namespace Eng
theorem Ent.below {e:Ent}{w w':World}(h:e.is w)(hb:Below w.heap.size w w'):e.is w':=e.keep h fun k hk=>hb.block k (e.lt h k hk)
section
variable {S:Nat→Prop}{P:Program}{w w0:World}{L:List Ent}{PK:PKT}{K:VWP}
theorem c_rm {f:Nat}{args:Array Value}{e e':Ent}{M:Mem}{ok:Prop}{R:Value→Mem→Prop}{c:List PanicEntry}(ho:OwnS S w0 w L)(i:Nat)(hi:L[i]?=some (.two e (.mem M)))(h:Lent P f args e M w ok e' R c)
  (kr:∀v N w',ok→M.le N→R v N→OwnS S w0 w' (L.set i (.two e' (.mem N)))→K v w') (kp:∀e2 w',¬ok→OwnS S w0 w' (L.set i (.two e2 (.mem M)))→PK c w'):CallX P f args w PK K:=by
 by_cases hk:ok
 ·exact c_ret (h.ret hk) fun v w' ⟨N,hle,hr,ht⟩=>kr v N w' hk hle hr (ho.turn i hi ht)
 ·exact c_pan (h.pan hk) fun c' w' ⟨hc,e2,ht⟩=>by subst hc;exact kp e2 w' hk (ho.turn i hi ht)
end
end Eng
def rdC (s:List UInt8)(a:Int):List Value:=[.string ⟨s.toArray⟩,.int .i64 a]
abbrev rdE (b:Nat)(s:List UInt8)(a:Int):Ent:=.cells b (rdC s a) 118
abbrev rmE (b:Nat)(s:List UInt8)(a:Int)(M:Mem):Ent:=.two (rdE b s a) (.mem M)
abbrev rdP (b:Nat):Value:=.pointer (some ⟨b,0,none⟩)
def wrongE (e:Int):PanicEntry:={ v:=.iface 200 (.int .i64 e),recovered:=false }
theorem fr0:fOff prog 118 0=some 0:=by kernel_rfl
theorem fr1:fOff prog 118 1=some 1:=by kernel_rfl
theorem nfW:notIface prog 200=true:=by kernel_rfl
section
variable {w:World}{PK:PKT}{K:VWP}{S:Nat→Prop}{w0:World}{L:List Ent}
theorem fa_r0 {b:Nat}:DoX prog (mFA 118 (.pointer (some ⟨b,0,none⟩)) 0) w PK K=K (.pointer (some ⟨b,0,none⟩)) w:=f_addr fr0
theorem fa_r1 {b:Nat}:DoX prog (mFA 118 (.pointer (some ⟨b,0,none⟩)) 1) w PK K=K (.pointer (some ⟨b,1,none⟩)) w:=f_addr fr1
theorem rd_s {b:Nat}{s:List UInt8}{a:Int}(h:(rdE b s a).is w):DoX prog (mLoad 9 (.pointer (some ⟨b,0,none⟩))) w PK K=K (.string ⟨s.toArray⟩) w:=l_cell nStr5 (cells_cell (T:=118) (cs:=rdC s a) (i:=0) h rfl)
theorem rdr_s {b:Nat}{s:List UInt8}{a:Int}(h:(rdE b s a).is w):(mLoad 9 (.pointer (some ⟨b,0,none⟩))).run prog w=.ok (.value (.string ⟨s.toArray⟩)) w:=run_load_cell nStr5 (cells_cell (T:=118) (cs:=rdC s a) (i:=0) h rfl)
theorem rdr_a {b:Nat}{s:List UInt8}{a:Int}(h:(rdE b s a).is w):(mLoad 3 (.pointer (some ⟨b,1,none⟩))).run prog w=.ok (.value (.int .i64 a)) w:=run_load_cell nInt5 (cells_cell (T:=118) (cs:=rdC s a) (i:=1) h rfl)
theorem rd_put (i:Nat){b:Nat}{s:List UInt8}{a a':Int}(ho:OwnS S w0 w L)(hi:L[i]?=some (rdE b s a))(k:∀w',OwnS S w0 w' (L.set i (rdE b s a'))→K undef w'):DoX prog (mStore 3 (.pointer (some ⟨b,1,none⟩)) (.int .i64 a')) w PK K:=
 o_store i ho hi (by kernel_rfl) rfl (show 1 < 2 by omega) k
theorem throw {e:Int}{K2:Value→VWP}{PK2:PKT}(h:PK2 [wrongE e] w):DoX prog (mIface 200 (.int .i64 e)) w PK fun t w=>DoX prog (mPanic t) w PK2 (K2 t):=by
 rw[m_iface nfW,m_panic];exact h
end
theorem peek_ret (b:Nat)(s:List UInt8)(a at_:Int)(w:World)(hs:s.length≤1099511627776)(hr:(rdE b s a).is w) :
  Ret prog 225 #[rdP b,.int .i64 at_] w (fun v w'=>v=.tuple #[tokV (Lx.next s at_).1,.bool (decide ((Lx.next s at_).2=0))]∧Below w.heap.size w w'):=by
 refine ret_of fun K hK=>S_parse_reader_peek_ok ?_;unfold S_parse_reader_peek;refine o_tok (Own.start w) fun b4 w1 ho=>?_;rw[m_nil,fa_r0,rd_s (Ent.below (e:=rdE b s a) hr ho.done)];refine tk_new ho (next_ret s at_ w1 hs) fun b6 w2 ho=>?_;rw[tk_v ho 0 rfl];simp only[rs];refine tk_put 1 ho rfl fun w3 ho=>?_;exact ret_v2 (rv_cell (ho.agg 1 rfl aggTok)) rv_val (hK _ _ ⟨rfl,ho.done⟩)
def Has (s:List UInt8)(a:Int):Prop:=(Lx.next s a).2=0∧(Lx.next s a).1.k≠0
def lacks (s:List UInt8)(a:Int):Int:=if (Lx.next s a).2≠0 then (Lx.next s a).2 else 4
theorem pnext_ret (b:Nat)(s:List UInt8)(a:Int)(M:Mem)(w:World)(hs:s.length≤1099511627776)(hr:(rmE b s a M).is w) :
  Lent prog 118 #[rdP b] (rdE b s a) M w (Has s a) (rdE b s (Lx.next s a).1.t) (fun v N=>v=tokV (Lx.next s a).1) [wrongE (lacks s a)]:=by
 refine lent_of (fun K ho hret hpan=>S_parse_reader_next_ok ?_) hr;unfold S_parse_reader_next;refine o_tok ho fun b2 w1 ho=>?_;have two:∀{W:World} {b3:Nat},OwnS (rmE b s a M).blk w W [tokE b3 (Lx.next s a).1,tokE b2 Lx.none_,rdE b s a,.mem M]→S_parse_reader_next_0 (rdP b) (.pointer (some ⟨b2,0,none⟩)) (.pointer (some ⟨b3,0,none⟩)) (.int .i64 (Lx.next s a).2) W K:=by
  intro W b3 ho;have bad:∀{e:Int},¬Has s a→lacks s a=e→K (.panicked [wrongE e]) W:=by
   intro e hn he;subst he;exact hpan hn (rdE b s a) M W _ (ho.tail.tail) M.le_refl
  unfold Has lacks at *;generalize Lx.next s a=x at *
  unfold S_parse_reader_next_0;refine join fun J hJ=>?_;simp only[rs];by_cases e1:x.2=0
  case neg=>
   simp only[e1,ne_eq,not_false_eq_true,decide_true,i_t];exact throw (bad (fun h=>e1 h.1) (if_pos e1))
  simp only[e1,ne_eq,not_true,decide_false,i_f];refine hJ _ _ fun _=>?_;unfold S_parse_reader_next_1;refine join fun J hJ=>?_;rw[fa_t0,tk_k ho 0 rfl];simp only[rs];by_cases e2:x.1.k=0
  ·simp only[e2,decide_true,i_t];exact throw (bad (fun h=>h.2 e2) (if_neg (by rw[e1];simp)))
  simp only[e2,decide_false,i_f];refine hJ _ _ fun _=>?_;unfold S_parse_reader_next_2;rw[fa_t2,tk_t ho 0 rfl,m_nil,fa_r1];refine rd_put 2 ho rfl fun w2 ho=>?_;have ho:OwnS (rmE b s a M).blk w w2 [tokE b3 x.1,tokE b2 Lx.none_,rdE b s x.1.t,.mem M]:=ho;rw[tk_v ho 0 rfl];refine tk_put 1 ho rfl fun w3 ho=>?_;refine ret_v1 (rv_cell (ho.agg 1 rfl aggTok)) ?_;have ho:OwnS (rmE b s a M).blk w w3 ([tokE b3 x.1,tokE b2 x.1]++([rdE b s x.1.t,.mem M]++[])):=ho;exact hret ⟨e1,e2⟩ _ M w3 _ ho.front M.le_refl rfl
 have ho:=ho.drew;refine⟨fun W=>(rdE b s a).is W,ho.at_ 1 rfl,?_⟩;refine hd_pure _ (fun _=>run_nil) (hd_pure _ (fun _=>run_fa fr0) (hd_do _ (fun W h=>rdr_s h) ?_));refine hd_pure _ (fun _=>run_nil) (hd_pure _ (fun _=>run_fa fr1) (hd_do _ (fun W h=>rdr_a h) ?_));refine⟨?_,?_⟩
 ·refine c_below ho (R:=fun v=>v=tokR (Lx.next s a)) (next_ret s a _ hs) ?_;rintro _ w2 rfl ho;refine hd_pure _ (fun _=>run_ext0) (hd_pure _ (fun _=>run_ext1) ?_);refine o_tok ho fun b3 w3 ho=>⟨ho.at_ 2 rfl,?_⟩;refine tk_put 0 ho rfl fun w4 ho=>?_;exact two ho
 ·refine o_tok ho fun b3 w3 ho=>⟨ho.at_ 2 rfl,?_⟩;refine c_below ho (R:=fun v=>v=tokR (Lx.next s a)) (next_ret s a _ hs) ?_;rintro _ w2 rfl ho;refine hd_pure _ (fun _=>run_ext0) (hd_pure _ (fun _=>run_ext1) ?_);refine tk_put 0 ho rfl fun w4 ho=>?_;exact two ho
end
section
open Eng
def S_value_Real (t0:Value)(w:World)(K:Ending→World→Prop):Prop:=
 DoX prog (mAlloc 27) w (pk K) fun t2 w=>
 DoX prog (mBuild 27 #[(0,(.int .i64 3)),(1,t0)]) w (pk K) fun t4 w=>
 DoX prog (mStore 27 t2 t4) w (pk K) fun _ w=>
 RetX prog [.cell t2 27] w K
theorem S_value_Real_eq (t0:Value)(w:World)(K:Ending→World→Prop):wpX prog 5 [] [] none (bodyOf Tryz.f182) (topQ prog [.cell 2 27] K) (startX [t0]) [] w=S_value_Real t0 w K:=by kernel_rfl
theorem S_value_Real_ok {t0:Value}{w:World}{K:Ending→World→Prop}(h:S_value_Real t0 w K):Calls prog 182 #[t0] w K:=
 calls_of_wpX Tryz.func182 rfl rfl rfl rfl (Eq.mpr (S_value_Real_eq t0 w K) h)
def S_value_Ref (t0 t1:Value)(w:World)(K:Ending→World→Prop):Prop:=
 DoX prog (mAlloc 27) w (pk K) fun t4 w=>
 DoX prog (mBuild 27 #[(0,(.int .i64 8)),(1,t0),(2,t1)]) w (pk K) fun t7 w=>
 DoX prog (mStore 27 t4 t7) w (pk K) fun _ w=>
 RetX prog [.cell t4 27] w K
theorem S_value_Ref_eq (t0 t1:Value)(w:World)(K:Ending→World→Prop):wpX prog 8 [] [] none (bodyOf Tryz.f227) (topQ prog [.cell 4 27] K) (startX [t0,t1]) [] w=S_value_Ref t0 t1 w K:=by kernel_rfl
theorem S_value_Ref_ok {t0 t1:Value}{w:World}{K:Ending→World→Prop}(h:S_value_Ref t0 t1 w K):Calls prog 227 #[t0,t1] w K:=
 calls_of_wpX Tryz.func227 rfl rfl rfl rfl (Eq.mpr (S_value_Ref_eq t0 t1 w K) h)
def S_value_Bool_0 (t2 t3:Value)(w:World)(K:Ending→World→Prop):Prop:=
 DoX prog (mLoad 27 t3) w (pk K) fun t7 w=>
 DoX prog (mStore 27 t2 t7) w (pk K) fun _ w=>
 RetX prog [.cell t2 27] w K
def S_value_Bool (t0:Value)(w:World)(K:Ending→World→Prop):Prop:=
 DoX prog (mAlloc 27) w (pk K) fun t2 w=>
 DoX prog (mBuild 27 #[(0,(.int .i64 1))]) w (pk K) fun t4 w=>
 DoX prog (mAlloc 27) w (pk K) fun t3 w=>
 DoX prog (mStore 27 t3 t4) w (pk K) fun _ w=>
 JoinX (fun J1=>
 IfX t0 (DoX prog (mFA 27 t3 1) w (pk K) fun t6 w=>
 DoX prog (mStore 2 t6 (.int .i64 1)) w (pk K) fun _ w=>
 J1 [] w) (J1 [] w)) (fun vs1 w=>∀_:Sg,S_value_Bool_0 t2 t3 w K)
theorem S_value_Bool_eq (t0:Value)(w:World)(K:Ending→World→Prop):wpX prog 8 [(4,[])] [] none (bodyOf Tryz.f186) (topQ prog [.cell 2 27] K) (startX [t0]) [] w=S_value_Bool t0 w K:=by kernel_rfl
theorem S_value_Bool_ok {t0:Value}{w:World}{K:Ending→World→Prop}(h:S_value_Bool t0 w K):Calls prog 186 #[t0] w K:=
 calls_of_wpX Tryz.func186 rfl rfl rfl rfl (Eq.mpr (S_value_Bool_eq t0 w K) h)
end
section
open Eng Go.RowKit
theorem vreal_ret (n:Int)(w:World):Ret prog 182 #[.int .i64 n] w (obR (ob1 3 n 0 []) nilS nilS w):=by
 refine ret_of fun K hK=>S_value_Real_ok ?_;unfold S_value_Real;refine o_oba (Own.start w) fun b w1 ho=>?_;have hb:∀{PK:PKT} {K:VWP},DoX prog (mBuild 27 #[(0,(.int .i64 3)),(1,.int .i64 n)]) w1 PK K=K (obV (ob1 3 n 0 []) nilS nilS) w1:=do_eq (by kernel_rfl);rw[hb];refine ob_put 0 rfl rfl ho rfl fun w2 ho=>?_;exact ret_ob ho (hK _ _ ⟨rfl,ho.done⟩)
theorem vref_ret (n g:Int)(w:World):Ret prog 227 #[.int .i64 n,.int .i64 g] w (obR (ob1 8 n g []) nilS nilS w):=by
 refine ret_of fun K hK=>S_value_Ref_ok ?_;unfold S_value_Ref;refine o_oba (Own.start w) fun b w1 ho=>?_;have hb:∀{PK:PKT} {K:VWP},DoX prog (mBuild 27 #[(0,(.int .i64 8)),(1,.int .i64 n),(2,.int .i64 g)]) w1 PK K=K (obV (ob1 8 n g []) nilS nilS) w1:=do_eq (by kernel_rfl);rw[hb];refine ob_put 0 rfl rfl ho rfl fun w2 ho=>?_;exact ret_ob ho (hK _ _ ⟨rfl,ho.done⟩)
theorem vbool_ret (b:Bool)(w:World):Ret prog 186 #[.bool b] w (obR (ob1 1 (if b then 1 else 0) 0 []) nilS nilS w):=by
 refine ret_of fun K hK=>S_value_Bool_ok ?_;unfold S_value_Bool;refine o_oba (Own.start w) fun b2 w1 ho=>?_;have hb:∀{PK:PKT} {K:VWP},DoX prog (mBuild 27 #[(0,(.int .i64 1))]) w1 PK K=K (obV (ob1 1 0 0 []) nilS nilS) w1:=do_eq (by kernel_rfl);rw[hb];refine o_oba ho fun b3 w2 ho=>?_;refine ob_put (o':=ob1 1 0 0 []) (vk':=nilS) (vc':=nilS) 0 rfl rfl ho rfl fun w3 ho=>?_;refine join fun J hJ=>?_;have fin:∀{W:World} {n:Int},Own w W [obE b3 (ob1 1 n 0 []) nilS nilS,obE b2 ob0 nilS nilS]→n=(if b then 1 else 0)→J [] W:=by
  intro W n ho hn;refine hJ _ _ fun _=>?_;unfold S_value_Bool_0;rw[ob_v ho 0 rfl];refine ob_put 1 rfl rfl ho rfl fun w4 ho=>?_;exact ret_v1 (rv_cell (ho.agg 1 rfl aggOb)) (hK _ _ ⟨by rw[hn];rfl,ho.done⟩)
 cases b with
|true=>
  rw[i_t,fa_o1];exact o_store 0 ho rfl (by kernel_rfl) rfl (show 0+1 < 6 by omega) fun w4 ho=>fin (n:=1) ho rfl
|false=>
  rw[i_f];exact fin (n:=0) ho rfl
def pend (s:List UInt8)(t:Lx.Tok)(a:Int):Int:=match Ps.ref s t with|some p=>p.2|none=>a
def refO (s:List UInt8)(t:Lx.Tok):Ob:=match Ps.ref s t with|some p=>ob1 8 t.n p.1 []|none=>ob1 0 0 0 []
theorem pref_ret (b:Nat)(s:List UInt8)(t:Lx.Tok)(a:Int)(M:Mem)(w:World)(hs:s.length≤1099511627776)(hr:(rmE b s a M).is w) :
  Lent prog 180 #[rdP b,tokV t] (rdE b s a) M w True (rdE b s (pend s t a)) (fun v N=>v=.tuple #[obV (refO s t) nilS nilS,.bool (Ps.ref s t).isSome]) []:=by
 refine lent_of (fun K ho hret hpan=>S_parse_reader_ref_ok ?_) hr;clear hpan;have hret:=hret trivial;unfold S_parse_reader_ref;refine o_tkb t ho fun b3 w1 ho=>?_;refine o_oba ho fun b4 w2 ho=>?_;have no:∀{W:World} {L:List Ent} {o:Ob} (i:Nat),OwnS (rmE b s a M).blk w W (L++([rdE b s a,.mem M]++[]))→L[i]?=some (obE b4 o nilS nilS)→Ps.ref s t=none →
   DoX prog (mBuild 27 #[]) W (pk K) (fun t W=>DoX prog (mStore 27 (.pointer (some ⟨b4,0,none⟩)) t) W (pk K) fun _ W=>RetX prog [.cell (.pointer (some ⟨b4,0,none⟩)) 27,.val (.bool false)] W K):=by
  intro W L o i ho hi hn;rw[m_ob0];have hil:i < L.length:=(List.getElem?_eq_some_iff.1 hi).1;refine ob_put i rfl rfl ho (by rw[List.getElem?_append_left hil];exact hi) fun w' ho=>?_;rw[List.set_append_left _ _ hil] at ho;refine ret_v2 (rv_cell (ho.agg (cs:=obC Vl.ob0 nilS nilS) i (by rw[List.getElem?_append_left (by simp;omega)];simp[hil];rfl) aggOb)) rv_val ?_;refine hret _ M w' (L.set i (obE b4 Vl.ob0 nilS nilS)++[]) ?_ M.le_refl ?_
  ·rw[pend,hn];exact ho.front
  ·rw[refO,hn];rfl
 have hpend:=(rfl:pend s t a=pend s t a);unfold pend at hpend;have hrefO:refO s t=_:=rfl;by_cases h1:t.n < 1∨8191 < t.n
 ·have hr:Ps.ref s t=none:=by rw[Ps.ref,if_pos h1]
  by_cases h2:t.n < 1
  ·simp only[rs,fa_t3,tk_n ho 1 rfl,decide_eq_true h2,g_un];exact no (L:=[_,_]) 0 ho rfl hr
  ·have h3:8191 < t.n:=by omega
   simp only[rs,fa_t3,tk_n ho 1 rfl,decide_eq_false h2,decide_eq_true h3,g_un];exact no (L:=[_,_]) 0 ho rfl hr
 have h2:¬t.n < 1:=by omega
 have h3:¬8191 < t.n:=by omega
 simp only[rs,fa_t3,fa_t2,tk_n ho 1 rfl,tk_t ho 1 rfl,decide_eq_false h2,decide_eq_false h3,g_un];refine c_below ho (R:=fun v=>v=.tuple #[tokV (Lx.next s t.t).1,.bool (decide ((Lx.next s t.t).2=0))]) (peek_ret b s a t.t w2 hs (ho.at_ 2 rfl)) ?_;rintro _ w3 rfl ho;simp only[ex];refine o_tok ho fun b6 w4 ho=>?_;refine tk_put 0 ho rfl fun w5 ho=>?_;have ho:OwnS (rmE b s a M).blk w w5 [tokE b6 (Lx.next s t.t).1,obE b4 ob0 nilS nilS,tokE b3 t,rdE b s a,.mem M]:=ho;by_cases h4:(Lx.next s t.t).2≠0∨(Lx.next s t.t).1.k≠1∨(Lx.next s t.t).1.n < 0∨65535 < (Lx.next s t.t).1.n
 ·have hr:Ps.ref s t=none:=by rw[Ps.ref,if_neg h1,if_pos h4]
  have no':=no (W:=w5) (L:=[_,_,_]) 1 ho rfl hr;by_cases q1:(Lx.next s t.t).2=0
  ·by_cases q2:(Lx.next s t.t).1.k=1
   ·by_cases q3:(Lx.next s t.t).1.n < 0
    ·simp only[rs,fa_t0,fa_t3,tk_k ho 0 rfl,tk_n ho 0 rfl,q1,q2,q3,ne_eq,not_true,decide_true,decide_false,g_un,Bool.not_true];exact no'
    ·have q4:65535 < (Lx.next s t.t).1.n:=by
      rcases h4 with h|h|h|h
      ·exact absurd q1 h
      ·exact absurd q2 h
      ·exact absurd h q3
      ·exact h
     simp only[rs,fa_t0,fa_t3,tk_k ho 0 rfl,tk_n ho 0 rfl,q1,q2,q3,q4,ne_eq,not_true,decide_true,decide_false,g_un,Bool.not_true];exact no'
   ·simp only[rs,fa_t0,fa_t3,tk_k ho 0 rfl,tk_n ho 0 rfl,q1,q2,ne_eq,not_true,not_false_eq_true,decide_true,decide_false,g_un,Bool.not_true];exact no'
  ·simp only[rs,fa_t0,fa_t3,tk_k ho 0 rfl,tk_n ho 0 rfl,q1,ne_eq,not_true,not_false_eq_true,decide_true,decide_false,g_un,Bool.not_false];exact no'
 have q:(Lx.next s t.t).2=0∧(Lx.next s t.t).1.k=1∧¬(Lx.next s t.t).1.n < 0∧¬65535 < (Lx.next s t.t).1.n:=by
  refine⟨?_,?_,?_,?_⟩
  ·exact Classical.not_not.1 fun h=>h4 (.inl h)
  ·exact Classical.not_not.1 fun h=>h4 (.inr (.inl h))
  ·exact fun h=>h4 (.inr (.inr (.inl h)))
  ·exact fun h=>h4 (.inr (.inr (.inr h)))
 obtain⟨q1,q2,q3,q4⟩:=q;simp only[rs,fa_t0,fa_t2,fa_t3,tk_k ho 0 rfl,tk_n ho 0 rfl,tk_t ho 0 rfl,q1,q2,q3,q4,ne_eq,not_true,decide_true,decide_false,g_un,Bool.not_true];refine c_below ho (R:=fun v=>v=.tuple #[tokV (Lx.next s (Lx.next s t.t).1.t).1,.bool (decide ((Lx.next s (Lx.next s t.t).1.t).2=0))]) (peek_ret b s a (Lx.next s t.t).1.t w5 hs (ho.at_ 3 rfl)) ?_;rintro _ w6 rfl ho;simp only[ex];refine o_tok ho fun b8 w7 ho=>?_;refine tk_put 0 ho rfl fun w8 ho=>?_;have hr:Ps.ref s t=if (Lx.next s (Lx.next s t.t).1.t).2=0∧(Lx.next s (Lx.next s t.t).1.t).1.k=5∧(Lx.next s (Lx.next s t.t).1.t).1.s=[82] then some ((Lx.next s t.t).1.n,(Lx.next s (Lx.next s t.t).1.t).1.t) else none:=by
  rw[Ps.ref,if_neg h1,if_neg h4]
 generalize Lx.next s (Lx.next s t.t).1.t=x at *
 have ho:OwnS (rmE b s a M).blk w w8 [tokE b8 x.1,tokE b6 (Lx.next s t.t).1,obE b4 ob0 nilS nilS,tokE b3 t,rdE b s a,.mem M]:=ho;by_cases e1:x.2=0
 case neg=>
  simp only[e1,decide_false,rs,g_un,Bool.not_false];exact no (L:=[_,_,_,_]) 2 ho rfl (by rw[hr,if_neg (fun h=>e1 h.1)])
 simp only[e1,decide_true,rs,g_un,Bool.not_true,tk_v ho 0 rfl];refine c_below ho (R:=fun v=>v=.bool (decide (x.1.k=5)&&decide (x.1.s=[82]))) (pword_ret x.1 5 [82] w8) ?_;rintro _ w9 rfl ho;cases e2:(decide (x.1.k=5)&&decide (x.1.s=[82])) with
|false=>
  simp only[rs,Bool.not_false];have hnr:¬(x.2=0∧x.1.k=5∧x.1.s=[82]):=fun h=>by
   rw[decide_eq_true h.2.1,decide_eq_true h.2.2] at e2;exact absurd e2 (by decide)
  exact no (L:=[_,_,_,_]) 2 ho rfl (by rw[hr,if_neg hnr])
|true=>
  simp only[Bool.and_eq_true,decide_eq_true_eq] at e2;rw[if_pos ⟨e1,e2.1,e2.2⟩] at hr;simp only[rs,Bool.not_true,fa_t2,tk_t ho 0 rfl,m_nil,fa_r1];refine rd_put 4 ho rfl fun w10 ho=>?_;have ho:OwnS (rmE b s a M).blk w w10 [tokE b8 x.1,tokE b6 (Lx.next s t.t).1,obE b4 ob0 nilS nilS,tokE b3 t,rdE b s x.1.t,.mem M]:=ho;rw[tk_n ho 3 rfl,tk_n ho 1 rfl];refine c_below ho (R:=fun v=>v=obV (ob1 8 t.n (Lx.next s t.t).1.n []) nilS nilS) (vref_ret t.n (Lx.next s t.t).1.n w10) ?_;rintro _ w11 rfl ho;refine ob_put 2 rfl rfl ho rfl fun w12 ho=>?_;refine ret_v2 (rv_cell (ho.agg 2 rfl aggOb)) rv_val ?_;have ho:OwnS (rmE b s a M).blk w w12 ([tokE b8 x.1,tokE b6 (Lx.next s t.t).1,obE b4 (ob1 8 t.n (Lx.next s t.t).1.n []) nilS nilS,tokE b3 t]++([rdE b s x.1.t,.mem M]++[])):=ho;have hf:=ho.front;rw[←show pend s t a=x.1.t by rw[pend,hr]] at hf;exact hret _ M w12 _ hf M.le_refl (by rw[refO,hr];rfl)
def PObj (s:List UInt8)(n:Nat):Prop:=∀(b:Nat) (a:Int) (M:Mem) (w:World),Has s a→(rmE b s (Lx.next s a).1.t M).is w →
 Lent prog 117 #[rdP b,tokV (Lx.next s a).1,.int .i64 (24 - (n:Int))] (rdE b s (Lx.next s a).1.t) M w ((Ps.obj s n a).2.2=0) (rdE b s (Ps.obj s n a).2.1) (fun v N=>OV N.A N.w v (Ps.obj s n a).1) [wrongE (Ps.obj s n a).2.2]
def PArr (s:List UInt8)(n:Nat):Prop:=∀(b:Nat) (a:Int) (M:Mem) (w:World),0≤a→a≤s.length→(rmE b s a M).is w →
 Lent prog 187 #[rdP b,.int .i64 (24 - (n:Int))] (rdE b s a) M w ((Ps.arr s (decide (n≠0)) (Ps.obj s n) (s.length+1) a []).2.2=0) (rdE b s (Ps.arr s (decide (n≠0)) (Ps.obj s n) (s.length+1) a []).2.1) (fun v N=>OV N.A N.w v (Ps.arr s (decide (n≠0)) (Ps.obj s n) (s.length+1) a []).1) [wrongE (Ps.arr s (decide (n≠0)) (Ps.obj s n) (s.length+1) a []).2.2]
def PDict (s:List UInt8)(n:Nat):Prop:=∀(b:Nat) (a:Int) (M:Mem) (w:World),0≤a→a≤s.length→(rmE b s a M).is w →
 Lent prog 188 #[rdP b,.int .i64 (24 - (n:Int))] (rdE b s a) M w ((Ps.dict s (Ps.obj s n) (s.length+1) a Ps.dict0 []).2.2=0) (rdE b s (Ps.dict s (Ps.obj s n) (s.length+1) a Ps.dict0 []).2.1) (fun v N=>OV N.A N.w v (Ps.dict s (Ps.obj s n) (s.length+1) a Ps.dict0 []).1) [wrongE (Ps.dict s (Ps.obj s n) (s.length+1) a Ps.dict0 []).2.2]
end
section
open Eng Go.RowKit
theorem obj_lacks {s:List UInt8}{n:Nat}{a:Int}(h:¬Has s a):Ps.obj s n a=Ps.bad (lacks s a):=by
 unfold Has at h;unfold lacks;cases n
 all_goals
  rw[Ps.obj];by_cases e1:(Lx.next s a).2=0
  ·have e2:(Lx.next s a).1.k=0:=Classical.not_not.1 fun h2=>h ⟨e1,h2⟩;rw[if_neg (by rw[e1];simp),if_pos e2,if_neg (by rw[e1];simp)]
  ·rw[if_pos e1,if_pos e1]
theorem lacks_pos {s:List UInt8}{a:Int}:lacks s a≠0:=by
 unfold lacks;split
 ·assumption
 ·decide
theorem pobj_ret (s:List UInt8)(hs:s.length≤1000000000)(harr:∀n,n≤23→PObj s n→PArr s n)(hdict:∀n,n≤23→PObj s n→PDict s n):∀n:Nat,n≤24→PObj s n:=by
 intro n
 induction n with
|zero=>
  intro _ b a M w hh hr;have hob:Ps.obj s 0 a=_:=Ps.obj.eq_def s 0 a;simp only at hob;refine lent_of (fun K ho hret hpan=>S_parse_reader_object_ok ?_) hr;unfold S_parse_reader_object;refine o_tkb _ ho fun b4 w1 ho=>?_;refine o_oba ho fun b6 w2 ho=>?_;clear hret;obtain⟨e1,e2⟩:=hh;generalize Ps.obj s 0 a=R at *;generalize Lx.next s a=x at *
  rw[if_neg (by rw[e1];simp),if_neg e2] at hob;refine join fun J hJ=>?_;rw[tk_v ho 1 rfl];refine c_below ho (R:=fun v=>v=.bool (Ps.begins x.1)) (pfirst_ret x.1 w2 e2) ?_;rintro _ w3 rfl ho;have fail:∀{e:Int},R=Ps.bad e→e≠0→∀{W:World},OwnS (rmE b s x.1.t M).blk w W [obE b6 ob0 nilS nilS,tokE b4 x.1,rdE b s x.1.t,.mem M]→K (.panicked [wrongE e]) W:=by
   intro e he h0 W ho;subst he;exact hpan h0 _ M W _ ho.tail.tail M.le_refl
  cases e3:Ps.begins x.1 with
 |false=>
   simp only[rs,Bool.not_false,i_t];rw[if_pos e3] at hob;exact throw (fail hob (by decide) ho)
 |true=>
   simp only[rs,Bool.not_true,i_f];rw[if_neg (by rw[e3];simp)] at hob;refine hJ _ _ fun _=>?_;unfold S_parse_reader_object_0;refine join fun J hJ=>?_;simp only[rs,show decide ((24:Int)≤24 - ((0:Nat):Int))=true by decide];exact throw (fail hob (by decide) ho)
|succ n ih=>
  intro hn b a M w hh hr;have ih:=ih (by omega);have harr:=harr n (by omega) ih;have hdict:=hdict n (by omega) ih;have hob:Ps.obj s (n+1) a=_:=Ps.obj.eq_def s (n+1) a;simp only at hob;refine lent_of (fun K ho hret hpan=>S_parse_reader_object_ok ?_) hr;unfold S_parse_reader_object;refine o_tkb _ ho fun b4 w1 ho=>?_;refine o_oba ho fun b6 w2 ho=>?_;obtain⟨e1,e2⟩:=hh;have hbd:=@Lx.next_bd s a e1 e2;have hfm:=@Lx.next_form s a e1;have hge:=Lx.skip_ge s a.toNat;generalize hR:Ps.obj s (n+1) a=R at *;clear hR;generalize Lx.next s a=x at *
  rw[if_neg (by rw[e1];simp),if_neg e2] at hob;refine join fun J hJ=>?_;rw[tk_v ho 1 rfl];refine c_below ho (R:=fun v=>v=.bool (Ps.begins x.1)) (pfirst_ret x.1 w2 e2) ?_;rintro _ w3 rfl ho;have fail:∀{e:Int},R=Ps.bad e→e≠0→∀{W:World},OwnS (rmE b s x.1.t M).blk w W [obE b6 ob0 nilS nilS,tokE b4 x.1,rdE b s x.1.t,.mem M]→K (.panicked [wrongE e]) W:=by
   intro e he h0 W ho;subst he;exact hpan h0 _ M W _ ho.tail.tail M.le_refl
  cases e3:Ps.begins x.1 with
 |false=>
   simp only[rs,Bool.not_false,i_t];rw[if_pos e3] at hob;exact throw (fail hob (by decide) ho)
 |true=>
  simp only[rs,Bool.not_true,i_f];rw[if_neg (by rw[e3];simp)] at hob;refine hJ _ _ fun _=>?_;unfold S_parse_reader_object_0;refine join fun J hJ=>?_;have hdeep:¬(24:Int)≤24 - ((n+1:Nat):Int):=by omega
  simp only[rs,decide_eq_false hdeep];refine hJ _ _ fun _=>?_;unfold S_parse_reader_object_1;simp only[rs,fa_t0,tk_k ho 1 rfl]
  -- what is returned
  have good:∀{W:World} {L:List Ent} {k m g t:Int} {z:List UInt8} (j:Nat),OwnS (rmE b s x.1.t M).blk w W (L++([rdE b s t,.mem M]++[]))→L[j]?=some (obE b6 (ob1 k m g z) nilS nilS)→R=(ob1 k m g z,t,0)→RetX prog [.cell (.pointer (some ⟨b6,0,none⟩)) 27] W K:=by
   intro W L k m g t z j ho hj he;have hjl:j < L.length:=(List.getElem?_eq_some_iff.1 hj).1;refine ret_v1 (rv_cell (ho.agg (cs:=obC (ob1 k m g z) nilS nilS) j (by rw[List.getElem?_append_left hjl];exact hj) aggOb)) ?_;subst he;exact hret rfl _ M W _ ho.front M.le_refl ob1_ov2
  have tail:∀{f:Nat} {args:Array Value} {k m g:Int} {z:List UInt8} {W:World} {L:List Ent} {PK1 PK2:PKT} {o:Ob} {vk vc:Value} (j:Nat),OwnS (rmE b s x.1.t M).blk w W (L++([rdE b s x.1.t,.mem M]++[]))→L[j]?=some (obE b6 o vk vc)→Ret prog f args W (obR (ob1 k m g z) nilS nilS W)→R=(ob1 k m g z,x.1.t,0) →
    CallX prog f args W PK1 fun t W=>DoX prog (mStore 27 (.pointer (some ⟨b6,0,none⟩)) t) W PK2 fun _ W=>RetX prog [.cell (.pointer (some ⟨b6,0,none⟩)) 27] W K:=by
   intro f args k m g z W L PK1 PK2 o vk vc j ho hj hr he;have hjl:j < L.length:=(List.getElem?_eq_some_iff.1 hj).1;refine c_below ho (R:=fun v=>v=obV (ob1 k m g z) nilS nilS) hr ?_;rintro _ W2 rfl ho;refine ob_put (o':=ob1 k m g z) (vk':=nilS) (vc':=nilS) j rfl rfl ho (by rw[List.getElem?_append_left hjl];exact hj) fun W3 ho=>?_;rw[List.set_append_left _ _ hjl] at ho;exact good j ho (by simp[hjl]) he
  have hleafR:x.1.k≠6→R=Ps.leaf s x.1:=fun h=>by rw[hob,if_pos h]
  rcases hfm.kind with k0|k1|k2|k3|k4|k5|k6
  ·exact absurd k0 e2
  ·have hk6:x.1.k≠6:=by omega
   have hleaf:R=match Ps.ref s x.1 with
   |some p=>(.mk 8 x.1.n p.1 [] [] [],p.2,0)
   |none=>(.mk 2 x.1.n 0 [] [] [],x.1.t,0):=by rw[hleafR hk6,Ps.leaf,if_pos k1];cases Ps.ref s x.1<;>rfl
   simp only[decide_eq_true k1,i_t,tk_v ho 1 rfl];have ho:OwnS (rmE b s x.1.t M).blk w w3 ([obE b6 ob0 nilS nilS,tokE b4 x.1]++([rdE b s x.1.t,.mem M]++[])):=ho;have ho:=ho.front.pair;refine c_rm ho 0 rfl (pref_ret b s x.1 x.1.t M w3 (by omega) (ho.at_ 0 rfl)) ?_ fun _ _ h=>absurd trivial h;rintro _ N w4 _ hle rfl ho;simp only[ex];have ho:=ho.split;have ho:OwnS (rmE b s x.1.t M).blk w w4 ([rdE b s (pend s x.1 x.1.t),.mem N]++([obE b6 ob0 nilS nilS,tokE b4 x.1]++[])):=ho;have ho:=ho.front;refine o_oba ho fun b7 w5 ho=>?_;refine ob_put (vk':=nilS) (vc':=nilS) 0 rfl rfl ho rfl fun w6 ho=>?_;have ho:OwnS (rmE b s x.1.t M).blk w w6 ([obE b7 (refO s x.1) nilS nilS,obE b6 ob0 nilS nilS,tokE b4 x.1]++([rdE b s (pend s x.1 x.1.t),.mem N]++[])):=ho;unfold refO pend at ho;cases hp:Ps.ref s x.1 with
  |some p=>
    rw[hp] at hleaf ho;simp only at ho;simp only[Option.isSome_some,i_t,ob_v ho 0 rfl];refine ob_put 1 rfl rfl ho rfl fun w7 ho=>?_;have ho:OwnS (rmE b s x.1.t M).blk w w7 ([obE b7 (ob1 8 x.1.n p.1 []) nilS nilS,obE b6 (ob1 8 x.1.n p.1 []) nilS nilS,tokE b4 x.1]++([rdE b s p.2,.mem N]++[])):=ho;refine ret_v1 (rv_cell (ho.agg 1 rfl aggOb)) ?_;subst hleaf;exact hret rfl _ N w7 _ ho.front hle ob1_ov2
  |none=>
    rw[hp] at hleaf ho;simp only at ho;simp only[Option.isSome_none,i_f,fa_t3,tk_n ho 2 rfl];refine c_below ho (R:=fun v=>v=obV (ob1 2 x.1.n 0 []) nilS nilS) (vint_ret x.1.n w6) ?_;rintro _ w7 rfl ho;refine ob_put 1 rfl rfl ho rfl fun w8 ho=>?_;have ho:OwnS (rmE b s x.1.t M).blk w w8 ([obE b7 (ob1 0 0 0 []) nilS nilS,obE b6 (ob1 2 x.1.n 0 []) nilS nilS,tokE b4 x.1]++([rdE b s x.1.t,.mem N]++[])):=ho;refine ret_v1 (rv_cell (ho.agg 1 rfl aggOb)) ?_;subst hleaf;exact hret rfl _ N w8 _ ho.front hle ob1_ov2
  ·have hk6:x.1.k≠6:=by omega
   simp only[k2,show ¬((2:Int)=1) by decide,decide_true,decide_false,rs,fa_t3,tk_n ho 1 rfl];exact tail (L:=[_,_]) 0 ho rfl (vreal_ret x.1.n _) (by rw[hleafR hk6,Ps.leaf,if_neg (by omega),if_pos k2])
  ·have hk6:x.1.k≠6:=by omega
   simp only[k3,show ¬((3:Int)=1) by decide,show ¬((3:Int)=2) by decide,decide_true,decide_false,rs,fa_t4',tk_s ho 1 rfl];exact tail (L:=[_,_]) 0 ho rfl (vstr_ret x.1.s _) (by rw[hleafR hk6,Ps.leaf,if_neg (by omega),if_neg (by omega),if_pos k3])
  ·have hk6:x.1.k≠6:=by omega
   simp only[k4,show ¬((4:Int)=1) by decide,show ¬((4:Int)=2) by decide,show ¬((4:Int)=3) by decide,decide_true,decide_false,rs,fa_t4',tk_s ho 1 rfl];exact tail (L:=[_,_]) 0 ho rfl (vname_ret x.1.s _) (by rw[hleafR hk6,Ps.leaf,if_neg (by omega),if_neg (by omega),if_neg (by omega),if_pos k4])
  ·have hk6:x.1.k≠6:=by omega
   simp only[k5,show ¬((5:Int)=1) by decide,show ¬((5:Int)=2) by decide,show ¬((5:Int)=3) by decide,show ¬((5:Int)=4) by decide,decide_true,decide_false,rs,fa_t4',tk_s ho 1 rfl];by_cases hn:x.1.s=[110,117,108,108]
   ·simp only[decide_eq_true hn,i_t];exact tail (L:=[_,_]) 0 ho rfl (vnull_ret _) (by rw[hleafR hk6,Ps.leaf,if_neg (by omega),if_neg (by omega),if_neg (by omega),if_neg (by omega),if_pos (show x.1.s=Ps.nul from hn)];rfl)
   ·simp only[decide_eq_false hn,i_f];refine tail (L:=[_,_]) 0 ho rfl (vbool_ret _ _) ?_;rw[hleafR hk6,Ps.leaf,if_neg (by omega),if_neg (by omega),if_neg (by omega),if_neg (by omega),if_neg (show ¬x.1.s=Ps.nul from hn)];simp only[decide_eq_true_eq];rfl
  ·have hs2:x.1.s=[91]∨x.1.s=[60,60]:=by
    unfold Ps.begins at e3;rw[if_pos k6] at e3;simpa using e3
   rw[if_neg (show ¬x.1.k≠6 by rw[k6];simp)] at hob;simp only[k6,show ¬((6:Int)=1) by decide,show ¬((6:Int)=2) by decide,show ¬((6:Int)=3) by decide,show ¬((6:Int)=4) by decide,show ¬((6:Int)=5) by decide,decide_true,decide_false,rs,fa_t4',tk_s ho 1 rfl];rw[wrap64_id (by omega) (by omega),show (24:Int) - ((n+1:Nat):Int)+1=24 - (n:Int) by omega];have ho:OwnS (rmE b s x.1.t M).blk w w3 ([obE b6 ob0 nilS nilS,tokE b4 x.1]++([rdE b s x.1.t,.mem M]++[])):=ho;have ho:=ho.front.pair;have fin:∀{W:World} {N:Mem} {u:Value},R.2.2=0→M.le N→OV N.A N.w u R.1→OwnS (rmE b s x.1.t M).blk w W [rmE b s R.2.1 N,obE b6 ob0 nilS nilS,tokE b4 x.1] →
     DoX prog (mStore 27 (.pointer (some ⟨b6,0,none⟩)) u) W (pk K) fun _ w=>RetX prog [.cell (.pointer (some ⟨b6,0,none⟩)) 27] w K:=by
    intro W N u h0 hle hu ho;obtain⟨xk,xc,xcs,rfl,hx⟩:=hu.open;refine ob_put 1 hx.keys.one hx.kids.one ho rfl fun W2 ho=>?_;refine ret_v1 (rv_cell (ho.agg 1 rfl aggOb)) ?_;exact hret h0 _ N W2 _ ho.split hle hx.ov
   have fall:∀{W:World} {e2:Ent},¬R.2.2=0→OwnS (rmE b s x.1.t M).blk w W [.two e2 (.mem M),obE b6 ob0 nilS nilS,tokE b4 x.1]→pk K [wrongE R.2.2] W:=
    fun h0 ho=>hpan h0 _ M _ _ ho.split M.le_refl
   rcases hs2 with h2|h2
   ·simp only[decide_eq_true h2,i_t];rw[if_pos h2] at hob;have h:=harr b x.1.t M w3 (by omega) (by omega) (ho.at_ 0 rfl);rw[←hob] at h;exact c_rm ho 0 rfl h (fun v N w4 h0 hle hv ho=>fin h0 hle hv ho) fun e2 w4 h0 ho=>fall h0 ho
   ·have h91:¬x.1.s=[91]:=by rw[h2];decide
    simp only[decide_eq_false h91,i_f];rw[if_neg h91] at hob;have h:=hdict b x.1.t M w3 (by omega) (by omega) (ho.at_ 0 rfl);rw[←hob] at h;exact c_rm ho 0 rfl h (fun v N w4 h0 hle hv ho=>fin h0 hle hv ho) fun e2 w4 h0 ho=>fall h0 ho
end
section
open Eng Go.RowKit
def rdAt (b:Nat)(w:World):Nat:=match w.cell? ⟨b,1,none⟩ with|some (.int _ q)=>q.toNat|_=>0
theorem rdAt_is {b:Nat}{s:List UInt8}{a:Int}{w:World}(h:(rdE b s a).is w):rdAt b w=a.toNat:=by
 unfold rdAt;rw[cells_cell (T:=118) (cs:=rdC s a) (i:=1) h rfl]
theorem meas {n:Nat}{a b:Int}(h0:0≤a)(h:a < b)(hb:b≤n):n - b.toNat < n - a.toNat:=by omega
theorem arr_lacks {s:List UInt8}{ok:Bool}{n m:Nat}{a:Int}{acc:List Ob}(h:¬Has s a):Ps.arr s ok (Ps.obj s n) (m+1) a acc=Ps.bad (lacks s a):=by
 rw[Ps.arr];have h1:¬((Lx.next s a).2=0∧(Lx.next s a).1.k=6∧(Lx.next s a).1.s=[93]):=fun h2=>h ⟨h2.1,by rw[h2.2.1];decide⟩;rw[if_neg h1];by_cases e1:(Lx.next s a).2=0
 ·have e2:(Lx.next s a).1.k=0:=Classical.not_not.1 fun h2=>h ⟨e1,h2⟩;have hb:¬((Lx.next s a).2=0∧acc.length=8191∧Ps.begins (Lx.next s a).1=true∧ok=true):=fun h2=>by
   have:=h2.2.2.1;unfold Ps.begins at this;rw[if_neg (by rw[e2];decide),e2] at this;simp at this
  rw[if_neg hb,if_neg (by rw[e1];simp),obj_lacks h,if_pos (show (Ps.bad (lacks s a)).2.2≠0 from lacks_pos)];rfl
 ·rw[if_neg (fun h2=>e1 h2.1),if_pos e1];unfold lacks;rw[if_pos e1]
theorem parr_ret (s:List UInt8)(hs:s.length≤1000000000)(n:Nat)(hn:n≤23)(hsub:PObj s n):PArr s n:=by
 intro b a M w h0 h1 hr;generalize hR:Ps.arr s (decide (n≠0)) (Ps.obj s n) (s.length+1) a []=R;refine lent_of (fun K ho hret hpan=>S_parse_reader_array_ok ?_) hr;unfold S_parse_reader_array;have ho:=ho.pair.nilU 27 6;refine o_oba ho fun b4 w1 ho=>?_;have hb6:∀{PK:PKT} {K:VWP},DoX prog (mBuild 27 #[(0,(.int .i64 6))]) w1 PK K=K (obV (.mk 6 0 0 [] [] []) nilS nilS) w1:=do_eq (by kernel_rfl);rw[hb6];refine o_oba ho fun b5 w2 ho=>?_;refine ob_put (o':=.mk 6 0 0 [] [] []) (vk':=nilS) (vc':=nilS) 0 rfl rfl ho rfl fun w3 ho=>?_;generalize hS0:(rmE b s a M).blk=S0 at *;have ho:OwnS S0 w w3 [obE b5 (.mk 6 0 0 [] [] []) nilS nilS,obE b4 ob0 nilS nilS,kidE nilS 0 [],rmE b s a M]:=ho;have fall:∀{W:World} {L:List Ent} {e2:Ent} {N:Mem} (e:Int),OwnS S0 w W (L++([.two e2 (.mem N)]++[]))→M.le N→R=Ps.bad e→e≠0→pk K [wrongE e] W:=by
  intro W L e2 N e ho hle he h0;subst he;exact hpan h0 e2 N W _ (ho.front).split hle
 refine loop (fun vs w'=>∃(a':Int) (m:Nat) (acc:List Ob) (cs:List Value) (vc:Value) (N:Mem),vs=[]∧0≤a'∧a'≤s.length∧(acc.length:Int)≤a'∧acc.length≤8191∧acc.length+m=s.length+1 ∧
   Ps.arr s (decide (n≠0)) (Ps.obj s n) m a' acc=R∧M.le N∧OVs N.A N.w cs acc ∧
   OwnS S0 w w' [obE b5 (.mk 6 0 0 [] [] acc) nilS vc,obE b4 ob0 nilS nilS,kidE vc acc.length cs,rmE b s a' N]) (fun _ w=>s.length - rdAt b w)
  ⟨a,s.length+1,[],[],nilS,M,rfl,h0,h1,by simpa using h0,by simp,by simp,hR,M.le_refl,OVs.nil,ho⟩ ?_
 clear ho hR;rintro vs w4 ⟨a',m,acc,cs,vc,N,rfl,ha0,ha1,hla,hmx,hml,harr,hle,hall,ho⟩ _;simp only[S_parse_reader_array_0];obtain⟨m,rfl⟩:∃k,m=k+1:=⟨m - 1,by omega⟩;have hat:rdAt b w4=a'.toNat:=rdAt_is (ho.at_ 3 rfl).1;refine c_rm ho 3 rfl (pnext_ret b s a' N w4 (by omega) (ho.at_ 3 rfl)) ?_ fun e2 w5 hn ho=>?_
 rotate_left
 ·rw[arr_lacks hn] at harr;exact fall (L:=[_,_,_]) _ ho hle harr.symm lacks_pos
 rintro _ N1 w5 hhas hle1 rfl ho;have hbd:=@Lx.next_bd s a' hhas.1 hhas.2;have hge:=Lx.skip_ge s a'.toNat;have hopen:=@Ps.obj_open s n a';have hsubl:=fun (M:Mem) (w:World)=>hsub b a' M w hhas;have hbd2:=@Ps.obj_bd s n a';obtain⟨e1,e2⟩:=hhas;rw[Ps.arr] at harr;generalize Ps.obj s n a'=e at *;generalize Lx.next s a'=x at *
 have hvc:=urow_one (ho.at_ 2 rfl);refine o_tok ho fun b6 w6 ho=>?_;refine tk_put 0 ho rfl fun w7 ho=>?_;have ho:OwnS S0 w w7 [tokE b6 x.1,obE b5 (.mk 6 0 0 [] [] acc) nilS vc,obE b4 ob0 nilS nilS,kidE vc acc.length cs,rmE b s x.1.t N1]:=ho;rw[tk_v ho 0 rfl];refine c_below ho (R:=fun v=>v=.bool (decide (x.1.k=6)&&decide (x.1.s=[93]))) (pword_ret x.1 6 [93] w7) ?_;rintro _ w8 rfl ho;cases e3:(decide (x.1.k=6)&&decide (x.1.s=[93])) with
|true=>
  simp only[Bool.and_eq_true,decide_eq_true_eq] at e3;rw[if_pos ⟨e1,e3.1,e3.2⟩] at harr;simp only[i_t,ob_v ho 1 rfl];refine ob_put 2 rfl hvc ho rfl fun w9 ho=>?_;refine ret_v1 (rv_cell (ho.agg 2 rfl aggOb)) ?_;have ho:OwnS S0 w w9 ([tokE b6 x.1,obE b5 (.mk 6 0 0 [] [] acc) nilS vc,obE b4 (.mk 6 0 0 [] [] acc) nilS vc,kidE vc acc.length cs]++([rmE b s x.1.t N1]++[])):=ho;have ho:=ho.front.split;have ho:OwnS S0 w w9 ([rdE b s x.1.t,.mem N1,tokE b6 x.1,obE b5 (.mk 6 0 0 [] [] acc) nilS vc,obE b4 (.mk 6 0 0 [] [] acc) nilS vc]++([kidE vc acc.length cs]++[])):=ho;obtain⟨N2,hle2,hrow,ho⟩:=OwnS.freezeU (L:=[rdE b s x.1.t,.mem N1,tokE b6 x.1,obE b5 (.mk 6 0 0 [] [] acc) nilS vc,obE b4 (.mk 6 0 0 [] [] acc) nilS vc]) ho.front 1 rfl;subst harr;exact hret rfl _ N2 w9 _ ho ((hle.trans hle1).trans hle2) (ObAt.ov (o:=.mk 6 0 0 [] [] acc) ⟨SlA.nil _ _ _ _,hrow,(hall.le hle1).le hle2⟩)
|false=>
 have e3':¬(x.2=0∧x.1.k=6∧x.1.s=[93]):=fun h=>by
  rw[decide_eq_true h.2.1,decide_eq_true h.2.2] at e3;exact absurd e3 (by decide)
 rw[if_neg e3'] at harr;simp only[i_f];refine join fun J hJ=>?_
 -- the element
 have one:∀{W:World},OwnS S0 w W [tokE b6 x.1,obE b5 (.mk 6 0 0 [] [] acc) nilS vc,obE b4 ob0 nilS nilS,kidE vc acc.length cs,rmE b s x.1.t N1]→¬(acc.length=8191∧Ps.begins x.1=true∧n≠0)→J [] W:=by
  intro W ho h6;have h6':¬(x.2=0∧acc.length=8191∧Ps.begins x.1=true∧decide (n≠0)=true):=fun h=>h6 ⟨h.2.1,h.2.2.1,of_decide_eq_true h.2.2.2⟩;rw[if_neg h6',if_neg (by rw[e1];simp)] at harr;refine hJ _ _ fun _=>?_;unfold S_parse_reader_array_1;have ho:=ho.drew;refine⟨fun W=>(obE b5 (.mk 6 0 0 [] [] acc) nilS vc).is W∧(tokE b6 x.1).is W,⟨ho.at_ 1 rfl,ho.at_ 0 rfl⟩,?_⟩;refine hd_pure _ (fun _=>run_fa fo_o5) ?_;refine hd_do vc (fun W h=>run_load_cell nSlOb (cells_cell (T:=27) (cs:=obC (.mk 6 0 0 [] [] acc) nilS vc) (i:=5) h.1 rfl)) ?_;refine hd_do (tokV x.1) (fun W h=>run_load_at (AtV.agg aggTok (cs:=tokC x.1) rfl fun j u hj=>by rw[Nat.zero_add];exact cells_cell (T:=90) h.2 hj)) ?_;refine c_rm ho 4 rfl (hsubl N1 _ (ho.at_ 4 rfl)) ?_ fun e2 w9 hz ho=>?_
  rotate_left
  ·rw[if_pos hz] at harr;exact fun _ _ _ _ _ _=>fall (L:=[_,_,_,_]) _ ho (hle.trans hle1) harr.symm hz
  rintro u N2 w9 hz hle2 hu ho;have ho:OwnS S0 w w9 [tokE b6 x.1,obE b5 (.mk 6 0 0 [] [] acc) nilS vc,obE b4 ob0 nilS nilS,kidE vc acc.length cs,rmE b s e.2.1 N2]:=ho;obtain⟨xk,xc,xcs,rfl,hx⟩:=hu.open;refine⟨⟨ho.at_ 1 rfl,ho.at_ 0 rfl⟩,?_⟩;refine o_obs1 e.1 hx.keys.one hx.kids.one ho fun nb w10 ho=>⟨⟨ho.at_ 2 rfl,ho.at_ 1 rfl⟩,?_⟩;refine o_apO 4 ho rfl (ho.sl 0 rfl 6 1 1 rfl) (obC_one _ hx.keys.one hx.kids.one) (by omega) fun vc' w11 ho=>⟨⟨ho.at_ 2 rfl,ho.at_ 1 rfl⟩,?_⟩;have ho:=ho.tail.tail;have ho:OwnS S0 w w11 [obE b5 (.mk 6 0 0 [] [] acc) nilS vc,obE b4 ob0 nilS nilS,kidE vc' (acc.length+1) (cs++obC e.1 xk xc),rmE b s e.2.1 N2]:=ho;have hvc':=urow_one (ho.at_ 2 rfl);refine hd_pure _ (fun _=>run_fa fo_o5) ?_;refine o_store 0 ho rfl (by kernel_rfl) hvc' (show 0+5 < 6 by omega) fun w12 ho=>?_;have hbd3:=hbd2 hz;rw[if_neg (by rw[hz];simp)] at harr;obtain⟨o1,o2,o3,m',hm',_⟩:=hopen hz;have hmx':acc.length≠8191:=fun h=>h6 ⟨h,o3,by omega⟩;have el:(acc++[e.1]).length=acc.length+1:=by simp
  refine nextX ⟨e.2.1,m,acc++[e.1],cs++obC e.1 xk xc,vc',N2,rfl,by omega,hbd3.2,by simp;omega,by simp;omega,by simp;omega,harr,(hle.trans hle1).trans hle2,ovs_app ((hall.le hle1).le hle2) (ovs_1 hx.ov),?_⟩ ?_
  ·rw[el];exact ho
  ·have hat2:rdAt b w12=e.2.1.toNat:=rdAt_is (ho.at_ 3 rfl).1;show s.length - rdAt b w12 < s.length - rdAt b w4;rw[hat,hat2];exact meas ha0 hbd3.1 hbd3.2
 rw[tk_v ho 0 rfl];refine c_below ho (R:=fun v=>v=.bool (Ps.begins x.1)) (pfirst_ret x.1 w8 e2) ?_;rintro _ w9 rfl ho;cases e4:Ps.begins x.1 with
|false=>
  simp only[rs,g_un];exact one ho fun h=>by rw[e4] at h;exact absurd h.2.1 (by decide)
|true=>
  simp only[rs];by_cases e5:n=0
  ·have:¬(24:Int) - n < 24:=by omega
   simp only[decide_eq_false this,rs,g_un];exact one ho fun h=>h.2.2 e5
  ·have:(24:Int) - n < 24:=by omega
   simp only[decide_eq_true this,rs,fa_o5,ob_kids ho 1 rfl,sl_len Tryz.underlying25 (ho.slU 3 rfl)];by_cases e6:(8191:Int)≤(acc.length:Int)
   ·simp only[decide_eq_true e6,i_t];rw[if_pos ⟨e1,by omega,e4,decide_eq_true e5⟩] at harr;exact throw (fall (L:=[_,_,_,_]) 6 ho (hle.trans hle1) harr.symm (by decide))
   ·simp only[decide_eq_false e6,i_f];exact one ho fun h=>e6 (by omega)
end
section
open Eng Go.RowKit
def sortS (ks:List (List UInt8)):List (List UInt8):=ks.mergeSort fun x y=>decide (x≤y)
theorem sortS_len (ks:List (List UInt8)):(sortS ks).length=ks.length:=List.length_mergeSort _
theorem sortS_perm (ks:List (List UInt8)):(sortS ks).Perm ks:=List.mergeSort_perm _ _
theorem sortS_rise {ks l:List (List UInt8)}(hp:ks.Perm l)(hr:Vl.Rise l):sortS ks=l:=by
 have tr:∀a b c:List UInt8,decide (a≤b)=true→decide (b≤c)=true→decide (a≤c)=true:=fun a b c h1 h2=>by simp only[decide_eq_true_eq] at *;exact List.le_trans h1 h2
 have tt:∀a b:List UInt8,(decide (a≤b)||decide (b≤a))=true:=fun a b=>by simp only[Bool.or_eq_true,decide_eq_true_eq];exact List.le_total a b
 refine List.Perm.eq_of_pairwise (le:=fun a b=>decide (a≤b)=true) (fun a b _ _ h1 h2=>?_) (List.pairwise_mergeSort tr tt ks) (hr.imp fun {a b} h=>?_) ((sortS_perm ks).trans hp)
 ·simp only[decide_eq_true_eq] at h1 h2;exact List.le_antisymm h1 h2
 ·have:=(Vl.less_lt a b).1 h;simp only[decide_eq_true_eq];exact List.le_of_lt this
theorem ssort_ret (v:Value)(ks:List (List UInt8))(w:World)(h:(keyE v ks).is w)(hb:ks.length≤1000000000) :
  Ret prog 228 #[v] w (fun r w'=>r=.tuple #[]∧Turn (keyE v ks) (keyE v (sortS ks)) w w'):=by
 obtain⟨h1,h2⟩:=(show w.ownsRow 0 9 1 v ks.length (strsV ks) from h);rcases h2 with ⟨rfl,h0⟩|⟨g,cap,cur,rfl,hb0,hg,hnc,hcm,hcs,htake⟩
 ·have hk:ks=[]:=List.eq_nil_of_length_eq_zero h0;subst hk;refine Calls.mono (Tryz.slices_Sort_string_none none 0 w) ?_;rintro e w' ⟨rfl,rfl⟩;exact⟨_,rfl,rfl,by simpa[sortS] using Turn.refl h⟩
 ·rw[Nat.mul_one] at hcs htake;have hsz:ks.length≤cur.size:=by rw[hcs];exact hnc
  have hget:∀j,(hj:j < ks.length)→cur[j]?=some (Value.string ⟨ks[j].toArray⟩):=by
   intro j hj;have h3:(strsV ks)[j]?=some (.string ⟨ks[j].toArray⟩):=strsV_get hj;rw[←htake,List.getElem?_take,if_pos hj,Array.getElem?_toList] at h3;exact h3
  have hH:Go.Sort.Holds encStr w g 0 ks.toArray:=by
   intro j hj;have hj':j < ks.length:=by simpa using hj
   constructor
   ·unfold World.cell?;simp only[hg,Nat.zero_add];rw[hget j hj',getElem!_pos ks.toArray j hj];rfl
   ·unfold World.frozen?;simp only[hg,Nat.zero_add];simp
  refine Calls.mono (Tryz.slices_Sort_string g 0 cap ks w hH (lt_of_get hg) (by omega)) ?_;rintro e w' ⟨rfl,n,os,rfl⟩;refine⟨_,rfl,rfl,?_⟩;have hlen:=sortS_len ks;have hheap:∀k,k < w.heap.size→(Go.Sort.grow (Go.Sort.putRow encStr (Go.Sort.ahead w n) g 0 (sortS ks).toArray) os).heap[k]?=(if g=k then (w.heap[k]?).map (Go.Sort.onCells (Go.Sort.putCells encStr 0 (sortS ks).toArray)) else w.heap[k]?):=by
   intro k hk;show ((w.heap.modify g _)++os)[k]?=_;rw[Array.getElem?_append_left (by simpa using hk),Array.getElem?_modify]
  refine⟨⟨rfl,rfl,rfl,?_,fun k hk hn=>?_⟩,?_,fun k hk=>.inl hk⟩
  ·show w.heap.size≤((w.heap.modify g _)++os).size;simp
  ·have hne:g≠k:=fun e=>hn (by subst e;rfl);exact (hheap k hk).trans (if_neg hne)
  ·show (World.ownsRow _ 0 9 1 _ (sortS ks).length (strsV (sortS ks)));refine⟨by simp[strsV],.inr ⟨g,cap,Go.Sort.putCells encStr 0 (sortS ks).toArray cur,by rw[hlen],hb0,?_,by rw[hlen];exact hnc,hcm,?_,?_⟩⟩
   ·have:=hheap g (lt_of_get hg);rw[if_pos rfl,hg] at this;exact this
   ·simp[Go.Sort.putCells,hcs]
   ·rw[Nat.mul_one];apply List.ext_getElem?;intro j;rw[List.getElem?_take];by_cases hj:j < (sortS ks).length
    ·have hjc:j < cur.size:=by omega
     rw[if_pos hj,strsV_get hj,Array.getElem?_toList];unfold Go.Sort.putCells;rw[Array.getElem?_mapIdx,Array.getElem?_eq_getElem hjc,Option.map_some,if_pos ⟨by omega,by simpa using hj⟩,Nat.sub_zero,getElem!_pos (sortS ks).toArray j (by simpa using hj)];rfl
    ·rw[if_neg hj,List.getElem?_eq_none (by rw[strsV_length];omega)]
end
section
open Go
namespace Ps
abbrev Kv:=List UInt8×Ob
def live (l:List Kv):List (List UInt8):=(l.filter fun p=>decide (p.2.k≠0)).map (·.1)
structure Made (o:Ob) (l:List Kv):Prop where
 k:o.k=7
 n:o.n=0
 g:o.g=0
 s:o.s=[]
 rise:Vl.Rise o.keys
 len:o.keys.length=o.kids.length
 perm:(live l).Perm o.keys
 mem:∀q∈o.keys.zip o.kids,q∈l
theorem made0:Made dict0 []:=⟨rfl,rfl,rfl,rfl,List.Pairwise.nil,rfl,List.Perm.nil,fun q hq=>by simp[dict0,Ob.keys] at hq⟩
theorem live_snoc (l:List Kv)(p:Kv):live (l++[p])=live l++(if p.2.k≠0 then [p.1] else []):=by
 unfold live;rw[List.filter_append,List.map_append]
 congr 1
 by_cases h:p.2.k=0<;>simp[h]
theorem live_sub {l:List Kv}:∀k∈live l,k∈l.map (·.1):=by
 intro k hk;obtain⟨p,hp,rfl⟩:=List.mem_map.1 hk;exact List.mem_map.2 ⟨p,(List.mem_filter.1 hp).1,rfl⟩
theorem made_join {o v:Ob}{l:List Kv}{key:List UInt8}(h:Made o l)(hn:key ∉ l.map (·.1)):Made (join o key v) (l++[(key,v)]):=by
 unfold join;by_cases hv:v.k=0
 ·rw[if_neg (by rw[hv];simp)];refine⟨h.k,h.n,h.g,h.s,h.rise,h.len,?_,fun q hq=>List.mem_append_left _ (h.mem q hq)⟩;rw[live_snoc,if_neg (by rw[hv];simp),List.append_nil];exact h.perm
 ·rw[if_pos hv];have hko:key ∉ o.keys:=fun hk=>hn (live_sub _ (h.perm.symm.subset hk));have hhit:Vl.hit o.keys key=false:=by
   unfold Vl.hit;rw[decide_eq_false_iff_not];exact fun hk=>hko (List.mem_of_getElem? hk)
  have hput:Vl.put o key v=.mk o.k o.n o.g o.s (o.keys.take (Vl.place o.keys key)++key::o.keys.drop (Vl.place o.keys key)) (o.kids.take (Vl.place o.keys key)++v::o.kids.drop (Vl.place o.keys key)):=by
   unfold Vl.put;rw[hhit];rfl
  obtain⟨r1,r2⟩:=Vl.rise_put (v:=v) h.rise h.len (key:=key);refine⟨h.k,h.n,h.g,h.s,r1,r2,?_,?_⟩
  ·rw[live_snoc,if_pos hv,hput];refine (List.perm_append_singleton key (live l)).trans ?_;refine (List.Perm.cons key h.perm).trans ?_;have:=(List.perm_middle (a:=key) (l₁:=o.keys.take (Vl.place o.keys key)) (l₂:=o.keys.drop (Vl.place o.keys key))).symm
   rwa [List.take_append_drop] at this
  ·intro q hq;rw[hput] at hq;have hz:(o.keys.take (Vl.place o.keys key)++key::o.keys.drop (Vl.place o.keys key)).zip (o.kids.take (Vl.place o.keys key)++v::o.kids.drop (Vl.place o.keys key)) =
     (o.keys.take (Vl.place o.keys key)).zip (o.kids.take (Vl.place o.keys key))++(key,v)::(o.keys.drop (Vl.place o.keys key)).zip (o.kids.drop (Vl.place o.keys key)):=by
    rw[List.zip_append (by simp[h.len])];rfl
   have hq:q∈(o.keys.take (Vl.place o.keys key)++key::o.keys.drop (Vl.place o.keys key)).zip (o.kids.take (Vl.place o.keys key)++v::o.kids.drop (Vl.place o.keys key)):=hq;rw[hz] at hq;have hold:o.keys.zip o.kids=(o.keys.take (Vl.place o.keys key)).zip (o.kids.take (Vl.place o.keys key))++(o.keys.drop (Vl.place o.keys key)).zip (o.kids.drop (Vl.place o.keys key)):=by
    rw[←List.zip_append (by simp[h.len]),List.take_append_drop,List.take_append_drop]
   rcases List.mem_append.1 hq with hq|hq
   ·exact List.mem_append_left _ (h.mem q (by rw[hold];exact List.mem_append_left _ hq))
   ·rcases List.mem_cons.1 hq with hq|hq
    ·subst hq;simp
    ·exact List.mem_append_left _ (h.mem q (by rw[hold];exact List.mem_append_right _ hq))
theorem made_at {o:Ob}{l:List Kv}(h:Made o l){i:Nat}(hi:i < o.keys.length):(o.keys[i],o.kids[i]'(by have:=h.len;omega))∈l:=by
 refine h.mem _ ?_;have:(o.keys.zip o.kids)[i]'(by simp[h.len] at *;omega)=(o.keys[i],o.kids[i]'(by have:=h.len;omega)):=List.getElem_zip;rw[←this];exact List.getElem_mem _
end Ps
end
end Go.Proofs.YtjloddgofmdmgaaGreatDoor
