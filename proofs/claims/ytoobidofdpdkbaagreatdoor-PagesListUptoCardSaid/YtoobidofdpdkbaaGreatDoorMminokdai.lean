/- Texts that go together: MkB SWrite ObK ObL ObM ObN ObO MkC Plain05C MkD MkE MkF Plain05D MkG Plain19 KdA DcA SDocs SRef19 DcB DcC SSlcI SlcI DcD DcE DcF Plain19B DcG DcH SLaw07 ObP ObQ ObR STexts OcTx SSame SApart Plain07B Plain07C ObS0 ObT DcI Plain38 SLabel SRef38 SCut LbA LbB LbC LbD LbE LbF Plain38B Plain38C Plain38D Plain38E Plain35 Plain35B Plain35C Plain38F Plain38G Plain35D. -/
import Derived.Test.YtoobidofdpdkbaaGreatDoorRows
import Derived.Lib.Overlaps
import Derived.Laws.Externs
import Derived.Lib.Repeat
import Derived.Lib.Case
import Derived.Test.YtoobidofdpdkbaaGreatDoorMcacjffhi
import Derived.Test.YtoobidofdpdkbaaGreatDoorMcfcbgkko
set_option linter.defProp false
set_option linter.unusedSimpArgs false
set_option linter.unusedVariables false
set_option maxRecDepth 20000
open Go.Proofs.Tryz (prog)
namespace Go.Proofs.YtoobidofdpdkbaaGreatDoor
section
open Eng Go.RowKit
theorem Eng.Mem.le.trans {M N O:Mem}(h:M.le N)(k:N.le O):M.le O:=Mem.le_trans h k
theorem strsV_one5 {l:List (List UInt8)}:∀x∈strsV l,x.oneCell'=true:=by
 intro x hx;obtain⟨y,_,rfl⟩:=List.mem_map.1 hx;rfl
theorem urow_one {w:World}{T:TypeId}{sz:Nat}{v:Value}{n:Nat}{xs:List Value}(h:(Ent.urow T sz v n xs).is w):v.oneCell'=true:=by
 rcases (show w.ownsRow 0 T sz v n xs from h).2 with ⟨rfl,_⟩|⟨g,cap,cur,rfl,_⟩<;>rfl
theorem ovs_one {A:Nat→Prop}{w:World}:∀{os:List Ob} {cs:List Value},OVs A w cs os→∀x∈cs,x.oneCell'=true
|[],cs,h=>by rw[OVs] at h;subst h;intro x hx;cases hx
|o::os,cs,h=>by
  rw[OVs] at h;obtain⟨a,rest,rfl,hl,h1,h2⟩:=h;intro x hx;rcases List.mem_append.1 hx with hx|hx
  ·obtain⟨vk,vc,cs',he,hk⟩:=h1.open;have e:a.toArray=(obC o vk vc).toArray:=by injection he
   have e:a=obC o vk vc:=by simpa using congrArg Array.toList e
   subst e;exact obC_one o hk.keys.one hk.kids.one x hx
  ·exact ovs_one h2 x hx
theorem ovs_app {A:Nat→Prop}{w:World}:∀{os ps:List Ob} {cs ds:List Value},OVs A w cs os→OVs A w ds ps→OVs A w (cs++ds) (os++ps)
|[],ps,cs,ds,h,k=>by rw[OVs] at h;subst h;simpa using k
|o::os,ps,cs,ds,h,k=>by
  rw[OVs] at h;obtain⟨a,rest,rfl,hl,h1,h2⟩:=h;rw[List.cons_append,OVs];exact⟨a,rest++ds,by simp,hl,h1,ovs_app h2 k⟩
theorem ovs_1 {A:Nat→Prop}{w:World}{o:Ob}{vk vc:Value}(h:OV A w (obV o vk vc) o):OVs A w (obC o vk vc) [o]:=by
 rw[OVs];exact⟨obC o vk vc,[],by simp,rfl,h,OVs.nil⟩
theorem ObAt.le {M N:Mem}{o:Ob}{vk vc:Value}{cs:List Value}(hl:M.le N)(h:ObAt M.A M.w o vk vc cs):ObAt N.A N.w o vk vc cs:=⟨h.keys.le hl,h.kids.le hl,h.all.le hl⟩
theorem obAt_mk {M:Mem}{k n g:Int}{s:List UInt8}{keys:List (List UInt8)}{kids:List Ob}{vk vc:Value}{cs:List Value}(h1:SlA M.A M.w vk 1 keys.length (strsV keys))(h2:SlA M.A M.w vc 6 kids.length cs)(h3:OVs M.A M.w cs kids):ObAt M.A M.w (.mk k n g s keys kids) vk vc cs:=⟨h1,h2,h3⟩
theorem ob0_ov (M:Mem):OV M.A M.w (obV Vl.ob0 (.slice none 0 0) (.slice none 0 0)) Vl.ob0:=(obAt_mk (M:=M) (keys:=[]) (kids:=[]) (SlA.nil _ _ _ _) (SlA.nil _ _ _ _) OVs.nil).ov
theorem clone1_ret (o:Ob){vk vc:Value}(hk:vk.oneCell'=true)(hc:vc.oneCell'=true)(w:World):Ret prog 99 #[obV o vk vc] w (fun v w'=>v=obV o vk vc∧Below w.heap.size w w'):=by
 refine ret_of fun K hK=>S_value_Clone_1_ok ?_;unfold S_value_Clone_1;refine o_obb o hk hc (Own.start w) fun b w1 ho=>?_;refine o_oba ho fun b2 w2 ho=>?_;rw[ob_v ho 1 rfl];refine ob_put 0 hk hc ho rfl fun w3 ho=>?_;exact ret_v1 (rv_cell (ho.agg 0 rfl aggOb)) (hK _ _ ⟨rfl,ho.done⟩)
theorem clone1_plain:plainB prog 99=true:=by kernel_rfl
abbrev cloneF:Value:=.func (.func 99) #[] #[]
theorem changed_ret (n:Nat):∀(o:Ob) (v:Value) (M:Mem) (w:World),o.wt≤n→o.wt≤100000000000→M.has w→OV M.A M.w v o→RetM prog 98 #[v,cloneF] M w (fun v' N=>OV N.A N.w v' o):=by
 induction n with
|zero=>intro o v M w h;have:=o.wt_pos;omega
|succ n ih=>
 intro o v M w hn hw hM hv;obtain⟨vk,vc,cs,rfl,ha⟩:=hv.open;have hww:Ob.wts o.kids≤100000000000:=by cases o;rw[Ob.wt] at hw;simp only[Ob.kids];omega
 have hkt:Pl.tot o.keys≤100000000000:=by cases o;rw[Ob.wt] at hw;simp only[Ob.keys];omega
 have hlk:=Ob.len_wts o.kids;have hkl:=Pl.length_tot o.keys;refine retM_of hM fun K hK=>S_value_changed_ok ?_;unfold S_value_changed;refine o_obb o ha.keys.one ha.kids.one (OwnS.memS hM) fun b w1 ho=>?_;refine o_oba ho fun b4 w2 ho=>?_;rw[ob_v ho 1 rfl];refine c_val clone1_plain (c_below ho (R:=fun v=>v=obV o vk vc) (clone1_ret o ha.keys.one ha.kids.one w2) ?_);rintro _ w3 rfl ho;refine ob_put 1 ha.keys.one ha.kids.one ho rfl fun w4 ho=>?_;rw[fa_o4,ob_keys ho 1 rfl];refine c_ret (sclone_s_ret vk _ _ w4 (ha.keys.now (ho.hasM 2 rfl)) strsV_one5 (by omega)) fun vk' w5 hnew=>?_;have ho:=ho.join hnew;have ho:OwnS M.A w w5 [.urow 9 1 vk' o.keys.length (strsV o.keys),obE b4 ob0 (.slice none 0 0) (.slice none 0 0),obE b o vk vc,.mem M]:=ho;have hk1:vk'.oneCell'=true:=urow_one (ho.at_ 0 rfl);rw[fa_o4];refine o_store 2 ho rfl (by kernel_rfl) hk1 (show 0+4 < 6 by omega) fun w6 ho=>?_;have ho:OwnS M.A w w6 [.urow 9 1 vk' o.keys.length (strsV o.keys),obE b4 ob0 (.slice none 0 0) (.slice none 0 0),obE b o vk' vc,.mem M]:=ho;obtain⟨N,hMN,hkeys,ho⟩:=ho.freezeU 2 rfl;have ho:OwnS M.A w w6 [obE b4 ob0 (.slice none 0 0) (.slice none 0 0),obE b o vk' vc,.mem N]:=ho;refine join fun J hJ=>?_;have fin:∀(W:World) (N':Mem) (vc':Value) (cs':List Value),OwnS M.A w W [obE b4 ob0 (.slice none 0 0) (.slice none 0 0),obE b o vk' vc',.mem N']→N.le N'→vc'.oneCell'=true→SlA N'.A N'.w vc' 6 o.kids.length cs'→OVs N'.A N'.w cs' o.kids→J [] W:=by
  intro W N' vc' cs' ho hle hc1 h1 h2;refine hJ _ _ fun _=>?_;unfold S_value_changed_1;rw[ob_v ho 1 rfl];refine ob_put 0 hk1 hc1 ho rfl fun w7 ho=>?_;refine ret_v1 (rv_cell (ho.agg 0 rfl aggOb)) (hK _ _ N' _ 2 ho rfl (hMN.trans hle) ?_);exact ObAt.ov (⟨hkeys.le hle,h1,h2⟩:ObAt N'.A N'.w o vk' vc' cs')
 have hav:=ha.le hMN;rw[fa_o5,ob_kids ho 1 rfl];obtain⟨a,cap,rfl,hnil⟩:∃a cap,vc=.slice a o.kids.length cap∧(a=none→o.kids.length=0):=by
  obtain⟨⟨_,a,cap,e,h1,_⟩,_⟩:=ha.kids;exact⟨a,cap,e,h1⟩
 rw[n_nilS Tryz.underlying24];cases a with
|none=>
  simp only[Option.isNone_none,Bool.not_true,i_f];exact fin _ N _ _ ho N.le_refl rfl hav.kids hav.all
|some p=>
  simp only[Option.isNone_some,Bool.not_false,i_t];rw[fa_o5,ob_kids ho 1 rfl,sl_len_any Tryz.underlying24];refine o_makeN (sz:=6) (bytes:=88) Tryz.underlying24 (by kernel_rfl) (by omega) (by omega) ho fun g w7 zs hzs ho=>?_;have ho:=ho.toU 6 o.kids.length o.kids.length hzs (Nat.le_refl _) (by omega);rw[List.take_of_length_le (by omega)] at ho;rw[fa_o5,ob_kids ho 2 rfl,sl_len_any Tryz.underlying24];refine loop (fun vs W=>∃(i:Nat) (N':Mem) (cs' zs':List Value),vs=[.int .i64 i]∧i≤o.kids.length∧N.le N'∧OVs N'.A N'.w cs' (o.kids.take i)∧cs'.length=i*6 ∧
    OwnS M.A w W [.urow 26 6 (.slice (some ⟨g,0,none⟩) o.kids.length o.kids.length) o.kids.length (cs'++zs'),obE b4 ob0 (.slice none 0 0) (.slice none 0 0),obE b o vk' (.slice (some p) o.kids.length cap),.mem N']) (fun vs _=>o.kids.length - n0 vs)
   ⟨0,N,[],zs,rfl,by omega,N.le_refl,OVs.nil,rfl,ho⟩ ?_
  clear ho;rintro vs w8 ⟨i,N',cs',zs',rfl,hi,hle,hcs',hl',ho⟩ _;simp only[S_value_changed_0,gd,rs];have hrl:=(show w8.ownsRow 0 26 6 _ _ (cs'++zs') from ho.at_ 0 rfl).1;rw[List.length_append,hl'] at hrl;by_cases hlt:(i:Int) < (o.kids.length:Int)
  ·have hi':i < o.kids.length:=by omega
   simp only[hlt,decide_true,i_t];obtain⟨x,q,hx,hrx⟩:=kid_at (hav.le hle) hi';obtain⟨r1,r2⟩:=hrx w8 (ho.hasM 3 rfl);refine do_eq r1 |>.mpr (do_eq r2 |>.mpr ?_);obtain⟨xk,xc,xcs,rfl,hxa⟩:=hx.open;refine o_oba ho fun b7 w9 ho=>?_;refine ob_put 0 hxa.keys.one hxa.kids.one ho rfl fun w10 ho=>?_;rw[ob_v ho 0 rfl];have hkw:=kid_wt hi';refine c_mem ho 4 rfl (ih _ _ N' w10 (by omega) (by omega) (ho.hasM 4 rfl) hx) fun y N2 w11 hle2 hy ho=>?_;obtain⟨yk,yc,ycs,rfl,hya⟩:=hy.open;have ho:OwnS M.A w w11 [.urow 26 6 (.slice (some ⟨g,0,none⟩) o.kids.length o.kids.length) o.kids.length (cs'++zs'),obE b4 ob0 (.slice none 0 0) (.slice none 0 0),obE b o vk' (.slice (some p) o.kids.length cap),.mem N2]:=ho.tail;refine do_eq (run_ia Tryz.underlying24 szOb (by omega) (by omega)) |>.mpr ?_;rw[Int.toNat_natCast,Nat.zero_add];refine o_storeU 0 ho rfl (u:=obV o.kids[i] yk yc) (new:=obC o.kids[i] yk yc) rfl szOb (obC_one _ hya.keys.one hya.kids.one) (by show i*6+6≤_;omega) fun w12 ho=>?_;rw[wrap64_id (by omega) (by omega)];refine nextX ⟨i+1,N2,cs'++obC o.kids[i] yk yc,zs'.drop 6,rfl,by omega,hle.trans hle2,?_,?_,?_⟩ (by simp[n0,RowKit.intOf];omega)
   ·rw[List.take_succ_eq_append_getElem hi'];exact ovs_app (hcs'.le hle2) (ovs_1 hy)
   ·rw[List.length_append,hl'];show i*6+6=_;omega
   ·have e:(cs'++zs').take (i*6)++obC o.kids[i] yk yc++(cs'++zs').drop (i*6+(obC o.kids[i] yk yc).length)=cs'++obC o.kids[i] yk yc++zs'.drop 6:=by
     rw[List.take_left' hl',List.drop_append,List.drop_eq_nil_of_le (by rw[hl'];omega),List.nil_append,hl']
     congr 2
     show i*6+6 - i*6=6;omega
    rw[e] at ho;exact ho
  ·have hi':i=o.kids.length:=by omega
   subst hi';simp only[hlt,decide_false,i_f];have hz:zs'=[]:=List.eq_nil_of_length_eq_zero (by omega);subst hz;rw[List.append_nil,List.take_of_length_le (Nat.le_refl _)] at *;rw[fa_o5];refine o_store 2 ho rfl (by kernel_rfl) rfl (show 0+5 < 6 by omega) fun w9 ho=>?_;obtain⟨N2,hle2,hrow,ho⟩:=OwnS.freezeU (L:=[obE b4 ob0 (.slice none 0 0) (.slice none 0 0),obE b o vk' (.slice (some ⟨g,0,none⟩) o.kids.length o.kids.length),.mem N']) ho 2 rfl;exact fin _ N2 _ _ ho (hle.trans hle2) rfl hrow (hcs'.le hle2)
theorem clone_ret (o:Ob)(v:Value)(M:Mem)(w:World)(hw:o.wt≤100000000000)(hM:M.has w)(hv:OV M.A M.w v o):RetM prog 72 #[v] M w (fun v' N=>OV N.A N.w v' o):=by
 obtain⟨vk,vc,cs,rfl,ha⟩:=hv.open;refine retM_of hM fun K hK=>S_value_Clone_ok ?_;unfold S_value_Clone;refine o_obb o ha.keys.one ha.kids.one (OwnS.memS hM) fun b w1 ho=>?_;refine o_oba ho fun b4 w2 ho=>?_;rw[ob_v ho 1 rfl];refine c_mem ho 2 rfl (changed_ret o.wt o _ M w2 (Nat.le_refl _) hw (ho.hasM 2 rfl) hv) fun y N w3 hle hy ho=>?_;obtain⟨yk,yc,ycs,rfl,hya⟩:=hy.open;refine ob_put 0 hya.keys.one hya.kids.one ho rfl fun w4 ho=>?_;exact ret_v1 (rv_cell (ho.agg 0 rfl aggOb)) (hK _ _ N _ 2 ho rfl hle hy)
end
end Go.Proofs.YtoobidofdpdkbaaGreatDoor



namespace Go.Proofs.YtoobidofdpdkbaaGreatDoor
section
open Eng Go.RowKit
theorem n_err {xo yo:Operand}{a b:Int}{w:World}{PK:PKT}{K:VWP}:DoX prog (mEq .neq 32 xo yo (.int .i64 a) (.int .i64 b)) w PK K=K (.bool (decide (a≠b))) w:=n_int
end
end Go.Proofs.YtoobidofdpdkbaaGreatDoor

namespace Go.Proofs.YtoobidofdpdkbaaGreatDoor
section
open Eng Go.RowKit
abbrev nilS:Value:=.slice none 0 0
abbrev ob1 (k n g:Int)(s:List UInt8):Ob:=.mk k n g s [] []
section
variable {w:World}{S:Nat→Prop}{w0:World}{L:List Ent}
theorem ret_ob {K:Ending→World→Prop}{b:Nat}{o:Ob}{vk vc:Value}(ho:OwnS S w0 w (obE b o vk vc::L))(k:K (.returned (obV o vk vc)) w):RetX prog [.cell (.pointer (some ⟨b,0,none⟩)) 26] w K:=ret_v1 (rv_cell (ho.agg 0 rfl aggOb)) k
end
def obR (o:Ob)(vk vc:Value)(w:World):VWP:=fun v w'=>v=obV o vk vc∧Below w.heap.size w w'
theorem rnull_ret (w:World):Ret prog 97 #[] w (obR (ob1 0 0 0 []) nilS nilS w):=by
 refine ret_of fun K hK=>S_foliantref05_Null_ok ?_;unfold S_foliantref05_Null;refine o_oba (Own.start w) fun b w1 ho=>?_;have hb:∀{PK:PKT} {K:VWP},DoX prog (mBuild 26 #[]) w1 PK K=K (obV (ob1 0 0 0 []) nilS nilS) w1:=do_eq (by kernel_rfl);rw[hb];refine ob_put 0 rfl rfl ho rfl fun w2 ho=>?_;exact ret_ob ho (hK _ _ ⟨rfl,ho.done⟩)
theorem rint05_ret (n:Int)(w:World):Ret prog 26 #[.int .i64 n] w (obR (ob1 2 n 0 []) nilS nilS w):=by
 refine ret_of fun K hK=>S_foliantref05_Int_ok ?_;unfold S_foliantref05_Int;refine o_oba (Own.start w) fun b w1 ho=>?_;have hb:∀{PK:PKT} {K:VWP},DoX prog (mBuild 26 #[(0,(.int .i64 2)),(1,.int .i64 n)]) w1 PK K=K (obV (ob1 2 n 0 []) nilS nilS) w1:=do_eq (by kernel_rfl);rw[hb];refine ob_put 0 rfl rfl ho rfl fun w2 ho=>?_;exact ret_ob ho (hK _ _ ⟨rfl,ho.done⟩)
theorem rkey05_ret (s:List UInt8)(w:World):Ret prog 84 #[.string ⟨s.toArray⟩] w (obR (ob1 5 0 0 s) nilS nilS w):=by
 refine ret_of fun K hK=>S_foliantref05_Key_ok ?_;unfold S_foliantref05_Key;refine o_oba (Own.start w) fun b w1 ho=>?_;have hb:∀{PK:PKT} {K:VWP},DoX prog (mBuild 26 #[(0,(.int .i64 5)),(3,.string ⟨s.toArray⟩)]) w1 PK K=K (obV (ob1 5 0 0 s) nilS nilS) w1:=do_eq (by kernel_rfl);rw[hb];refine ob_put 0 rfl rfl ho rfl fun w2 ho=>?_;exact ret_ob ho (hK _ _ ⟨rfl,ho.done⟩)
theorem rref05_ret (n g:Int)(w:World):Ret prog 31 #[.int .i64 n,.int .i64 g] w (obR (ob1 8 n g []) nilS nilS w):=by
 refine ret_of fun K hK=>S_foliantref05_Ref_ok ?_;unfold S_foliantref05_Ref;refine o_oba (Own.start w) fun b w1 ho=>?_;have hb:∀{PK:PKT} {K:VWP},DoX prog (mBuild 26 #[(0,(.int .i64 8)),(1,.int .i64 n),(2,.int .i64 g)]) w1 PK K=K (obV (ob1 8 n g []) nilS nilS) w1:=do_eq (by kernel_rfl);rw[hb];refine ob_put 0 rfl rfl ho rfl fun w2 ho=>?_;exact ret_ob ho (hK _ _ ⟨rfl,ho.done⟩)
theorem rarr05_ret (a:Option Addr)(l c:Nat)(os:List Ob)(w:World):Ret prog 24 #[.slice a l c] w (obR ((.mk 6 0 0 [] [] os)) nilS (.slice a l c) w):=by
 refine ret_of fun K hK=>S_foliantref05_Array_ok ?_;unfold S_foliantref05_Array;refine o_oba (Own.start w) fun b w1 ho=>?_;have hb:∀{PK:PKT} {K:VWP},DoX prog (mBuild 26 #[(0,(.int .i64 6)),(5,.slice a l c)]) w1 PK K=K (obV ((.mk 6 0 0 [] [] os)) nilS (.slice a l c)) w1:=do_eq (by kernel_rfl);rw[hb];refine ob_put 0 rfl rfl ho rfl fun w2 ho=>?_;exact ret_ob ho (hK _ _ ⟨rfl,ho.done⟩)
end
section
open Eng Go.RowKit
def getV (v:Value)(b:Bool):Value:=.tuple #[v,.bool b]
def errV (v:Value)(e:Int):Value:=.tuple #[v,.int .i64 e]
section
variable {w:World}{S:Nat→Prop}{w0:World}{L:List Ent}
theorem ret_ob2 {K:Ending→World→Prop}{b:Nat}{o:Ob}{vk vc x:Value}(i:Nat)(ho:OwnS S w0 w L)(hi:L[i]?=some (obE b o vk vc))(k:K (.returned (.tuple #[obV o vk vc,x])) w):RetX prog [.cell (.pointer (some ⟨b,0,none⟩)) 26,.val x] w K:=
 ret_v2 (rv_cell (ho.agg i hi aggOb)) rv_val k
theorem m_ob0 {PK:PKT}{K:VWP}:DoX prog (mBuild 26 #[]) w PK K=K (obV Vl.ob0 nilS nilS) w:=do_eq (by kernel_rfl)
end
theorem keyed_ret (o:Ob){vk vc:Value}(hk:vk.oneCell'=true)(hc:vc.oneCell'=true)(w:World):Ret prog 105 #[obV o vk vc] w (fun v w'=>v=.bool (Vl.keyed o)∧Below w.heap.size w w'):=by
 refine ret_of fun K hK=>S_value_keyed_ok ?_;unfold S_value_keyed;refine o_obb o hk hc (Own.start w) fun b w1 ho=>?_;rw[fa_o0,ob_k ho 0 rfl];unfold Vl.keyed at hK;by_cases h7:o.k=7
 ·simp only[rs,h7,decide_true,g_un];exact hK _ _ ⟨by simp[h7],ho.done⟩
 ·simp only[rs,h7,decide_false,fa_o0,ob_k ho 0 rfl];exact hK _ _ ⟨by simp[h7],ho.done⟩
theorem vget_ret (o:Ob)(v:Value)(key:List UInt8)(M:Mem)(w:World)(hw:o.wt≤100000000000)(hM:M.has w)(hv:OV M.A M.w v o) :
  RetM prog 85 #[v,.string ⟨key.toArray⟩] M w (fun r N=>∃v',r=getV v' (Vl.get o key).isSome∧OV N.A N.w v' ((Vl.get o key).getD Vl.ob0)):=by
 obtain⟨vk,vc,cs,rfl,ha⟩:=hv.open;have hww:Ob.wts o.kids≤100000000000:=by cases o;rw[Ob.wt] at hw;simp only[Ob.kids];omega
 have hkt:Pl.tot o.keys≤100000000000:=by cases o;rw[Ob.wt] at hw;simp only[Ob.keys];omega
 have hkl:=Pl.length_tot o.keys;have hlk:=Ob.len_wts o.kids;refine retM_of hM fun K hK=>S_value_Get_ok ?_;unfold S_value_Get;refine o_obb o ha.keys.one ha.kids.one (OwnS.memS hM) fun b w1 ho=>?_;refine o_oba ho fun b4 w2 ho=>?_;rw[ob_v ho 1 rfl];refine c_below ho (R:=fun v=>v=.bool (Vl.keyed o)) (keyed_ret o ha.keys.one ha.kids.one w2) ?_;rintro _ w3 rfl ho;have no:∀{W:World},OwnS M.A w W [obE b4 ob0 nilS nilS,obE b o vk vc,.mem M]→Vl.get o key=none→DoX prog (mBuild 26 #[]) W (pk K) (fun t W=>DoX prog (mStore 26 (.pointer (some ⟨b4,0,none⟩)) t) W (pk K) fun _ W=>RetX prog [.cell (.pointer (some ⟨b4,0,none⟩)) 26,.val (.bool false)] W K):=by
  intro W ho hg;rw[m_ob0];refine ob_put 0 rfl rfl ho rfl fun w4 ho=>?_;refine ret_ob2 0 ho rfl (hK _ _ M _ 2 ho rfl M.le_refl ⟨obV Vl.ob0 nilS nilS,?_,?_⟩)
  ·rw[hg];rfl
  ·rw[hg];exact ob0_ov M
 cases hkd:Vl.keyed o with
|false=>
  simp only[rs,Bool.not_false];exact no ho (by unfold Vl.get;rw[hkd];rfl)
|true=>
  simp only[rs,Bool.not_true];rw[fa_o4,ob_keys ho 1 rfl];refine c_eq (sindex_ret vk o.keys key w3 (ha.keys.now (ho.hasM 2 rfl)) (by omega)) ?_;by_cases hi:o.keys.idxOf key < o.keys.length
  ·rw[if_pos hi];have h0:¬((o.keys.idxOf key:Int) < 0):=by omega
   simp only[rs,h0,decide_false,fa_o5,ob_kids ho 1 rfl];rw[sl_len Tryz.underlying24 (ha.kids.now (ho.hasM 2 rfl))];simp only[rs];by_cases hc:(o.kids.length:Int)≤(o.keys.idxOf key:Int)
   ·simp only[hc,decide_true,rs];refine no ho ?_;unfold Vl.get;rw[hkd,if_pos rfl,if_pos hi,List.getElem?_eq_none (by omega)]
   ·simp only[hc,decide_false,rs,fa_o5,ob_kids ho 1 rfl];have hi':o.keys.idxOf key < o.kids.length:=by omega
    have hg:Vl.get o key=some o.kids[o.keys.idxOf key]:=by
     unfold Vl.get;rw[hkd,if_pos rfl,if_pos hi,List.getElem?_eq_getElem hi']
    obtain⟨x,q,hx,hrx⟩:=kid_at ha hi';obtain⟨r1,r2⟩:=hrx w3 (ho.hasM 2 rfl);refine do_eq r1 |>.mpr (do_eq r2 |>.mpr ?_);have hkw:=kid_wt hi';refine c_mem ho 2 rfl (clone_ret _ x M w3 (by omega) (ho.hasM 2 rfl) hx) fun y N w4 hle hy ho=>?_;obtain⟨yk,yc,ycs,rfl,hya⟩:=hy.open;refine ob_put 0 hya.keys.one hya.kids.one ho rfl fun w5 ho=>?_;refine ret_ob2 0 ho rfl (hK _ _ N _ 2 ho rfl hle ⟨obV o.kids[o.keys.idxOf key] yk yc,?_,?_⟩)
    ·rw[hg];rfl
    ·rw[hg];exact hy
  ·rw[if_neg hi];have h0:((-1:Int) < 0):=by omega
   simp only[rs,h0,decide_true,g_un];refine no ho ?_;unfold Vl.get;rw[hkd,if_pos rfl,if_neg hi]
theorem rget_ret (o:Ob)(v:Value)(key:List UInt8)(M:Mem)(w:World)(hw:o.wt≤100000000000)(hM:M.has w)(hv:OV M.A M.w v o) :
  RetM prog 95 #[v,.string ⟨key.toArray⟩] M w (fun r N=>∃v',r=getV v' (Vl.get o key).isSome∧OV N.A N.w v' ((Vl.get o key).getD Vl.ob0)):=by
 obtain⟨vk,vc,cs,rfl,ha⟩:=hv.open;have hww:Ob.wts o.kids≤100000000000:=by cases o;rw[Ob.wt] at hw;simp only[Ob.kids];omega
 have hkt:Pl.tot o.keys≤100000000000:=by cases o;rw[Ob.wt] at hw;simp only[Ob.keys];omega
 have hkl:=Pl.length_tot o.keys;have hlk:=Ob.len_wts o.kids;refine retM_of hM fun K hK=>S_foliantref05_Get_ok ?_;unfold S_foliantref05_Get;refine o_obb o ha.keys.one ha.kids.one (OwnS.memS hM) fun b w1 ho=>?_;refine o_oba ho fun b4 w2 ho=>?_;have no:∀{W:World},OwnS M.A w W [obE b4 ob0 nilS nilS,obE b o vk vc,.mem M]→Vl.get o key=none→DoX prog (mBuild 26 #[]) W (pk K) (fun t W=>DoX prog (mStore 26 (.pointer (some ⟨b4,0,none⟩)) t) W (pk K) fun _ W=>RetX prog [.cell (.pointer (some ⟨b4,0,none⟩)) 26,.val (.bool false)] W K):=by
  intro W ho hg;rw[m_ob0];refine ob_put 0 rfl rfl ho rfl fun w4 ho=>?_;refine ret_ob2 0 ho rfl (hK _ _ M _ 2 ho rfl M.le_refl ⟨obV Vl.ob0 nilS nilS,?_,?_⟩)
  ·rw[hg];rfl
  ·rw[hg];exact ob0_ov M
 rw[fa_o0,ob_k ho 1 rfl];have main:Vl.keyed o=true→DoX prog (mFA 26 (.pointer (some ⟨b,0,none⟩)) 4) w2 (pk K) (fun t17 w=>
   DoX prog (mLoad 23 t17) w (pk K) fun t18 w=>
   DoX prog (mB .len #[23] 3 #[false] #[t18]) w (pk K) fun t19 w=>
   LoopX [(.bool false),(.int .i64 0)] w (fun vs1 w N1=>∀_:Sg,S_foliantref05_Get_0 (.string ⟨key.toArray⟩) (.pointer (some ⟨b,0,none⟩)) (.pointer (some ⟨b4,0,none⟩)) (vs1.getD 0 undef) t18 t19 (vs1.getD 1 undef) w N1 K)):=by
  intro hkd;rw[fa_o4,ob_keys ho 1 rfl,sl_len Tryz.underlying23 (ha.keys.now (ho.hasM 2 rfl))];refine loop (fun vs W=>∃i:Nat,vs=[.bool false,.int .i64 i]∧i≤o.keys.length∧key ∉ o.keys.take i∧OwnS M.A w W [obE b4 ob0 nilS nilS,obE b o vk vc,.mem M]) (fun vs _=>o.keys.length - n1 vs) ⟨0,rfl,by omega,by simp,ho⟩ ?_;clear ho;rintro vs w3 ⟨i,rfl,hi,hm,ho⟩ _;simp only[S_foliantref05_Get_0,gd,rs];by_cases hlt:(i:Int) < (o.keys.length:Int)
  ·have hi':i < o.keys.length:=by omega
   simp only[hlt,decide_true,i_t];obtain⟨q,hrk⟩:=key_at ha hi';obtain⟨r1,r2⟩:=hrk w3 (ho.hasM 2 rfl);refine do_eq r1 |>.mpr (do_eq r2 |>.mpr ?_);simp only[rs];by_cases he:o.keys[i]=key
   ·have hix:o.keys.idxOf key=i:=idx_at hi' hm he;simp only[he,decide_true,i_t,fa_o5,ob_kids ho 1 rfl];rw[sl_len Tryz.underlying24 (ha.kids.now (ho.hasM 2 rfl))];simp only[rs];by_cases hc:(o.kids.length:Int)≤(i:Int)
    ·simp only[hc,decide_true,i_t];refine no ho ?_;unfold Vl.get;rw[hkd,if_pos rfl,hix,if_pos hi',List.getElem?_eq_none (by omega)]
    ·simp only[hc,decide_false,i_f,fa_o5,ob_kids ho 1 rfl];have hc':i < o.kids.length:=by omega
     have hg:Vl.get o key=some o.kids[i]:=by
      unfold Vl.get;rw[hkd,if_pos rfl,hix,if_pos hi',List.getElem?_eq_getElem hc']
     obtain⟨x,q,hx,hrx⟩:=kid_at ha hc';obtain⟨r1,r2⟩:=hrx w3 (ho.hasM 2 rfl);refine do_eq r1 |>.mpr (do_eq r2 |>.mpr ?_);obtain⟨yk,yc,ycs,rfl,hya⟩:=hx.open;refine ob_put 0 hya.keys.one hya.kids.one ho rfl fun w5 ho=>?_;refine ret_ob2 0 ho rfl (hK _ _ M _ 2 ho rfl M.le_refl ⟨obV o.kids[i] yk yc,?_,?_⟩)
     ·rw[hg];rfl
     ·rw[hg];exact hx
   ·simp only[he,decide_false,i_f];rw[wrap64_id (by omega) (by omega)];refine nextX ⟨i+1,rfl,by omega,?_,ho⟩ (by simp[n1,RowKit.intOf];omega);rw[List.take_add_one,List.getElem?_eq_getElem hi'];simp only[Option.toList,List.mem_append,List.mem_singleton,not_or];exact⟨hm,fun e=>he e.symm⟩
  ·simp only[hlt,decide_false,i_f];refine no ho ?_;rw[List.take_of_length_le (by omega)] at hm;unfold Vl.get;rw[hkd,if_pos rfl,if_neg (by rw[List.idxOf_lt_length_iff];exact hm)]
 by_cases h7:o.k=7
 ·simp only[rs,h7,ne_eq,not_true,decide_false,g_un];exact main (by simp[Vl.keyed,h7])
 ·simp only[rs,h7,ne_eq,not_false_eq_true,decide_true,fa_o0,ob_k ho 1 rfl];by_cases h9:o.k=9
  ·simp only[h9,not_true,decide_false,rs];exact main (by simp[Vl.keyed,h9])
  ·simp only[h9,not_false_eq_true,decide_true,rs];exact no ho (by simp[Vl.get,Vl.keyed,h7,h9])
theorem rright_ret (o:Ob)(v:Value)(M:Mem)(w:World)(hw:o.wt≤100000000000)(hM:M.has w)(hv:OV M.A M.w v o) :
  RetM prog 47 #[v] M w (fun r N=>∃v',r=errV v' (Vl.right o).2∧OV N.A N.w v' (Vl.right o).1):=by
 obtain⟨vk,vc,cs,rfl,ha⟩:=hv.open;refine retM_of hM fun K hK=>S_foliantref05_right_ok ?_;unfold S_foliantref05_right;refine o_obb o ha.keys.one ha.kids.one (OwnS.memS hM) fun b w1 ho=>?_;refine o_oba ho fun b4 w2 ho=>?_;rw[ob_v ho 1 rfl];refine c_below ho (R:=fun v=>v=.int .i64 (Vl.check 1 o)) (rCheck05_ret o _ w2 (OV.inw (ho.hasM 2 rfl) hv) (by omega)) ?_;rintro _ w3 rfl ho;simp only[n_err];by_cases hc:Vl.check 1 o=0
 ·simp only[hc,ne_eq,not_true,decide_false,i_f];rw[ob_v ho 1 rfl];refine ob_put 0 ha.keys.one ha.kids.one ho rfl fun w4 ho=>?_;refine ret_ob2 0 ho rfl (hK _ _ M _ 2 ho rfl M.le_refl ⟨obV o vk vc,?_,?_⟩)
  ·simp[Vl.right,hc,errV]
  ·simpa[Vl.right,hc] using hv
 ·simp only[hc,ne_eq,not_false_eq_true,decide_true,i_t];rw[m_ob0];refine ob_put 0 rfl rfl ho rfl fun w4 ho=>?_;refine ret_ob2 0 ho rfl (hK _ _ M _ 2 ho rfl M.le_refl ⟨obV Vl.ob0 nilS nilS,?_,?_⟩)
  ·simp[Vl.right,hc,errV]
  ·simpa[Vl.right,hc] using ob0_ov M
theorem rplace_ret (va:Value)(l:List (List UInt8))(x:List UInt8)(w:World)(ha:Sl w va 1 l.length (strsV l))(hl:l.length≤1099511627776) :
  Ret prog 79 #[va,.string ⟨x.toArray⟩] w (fun v w'=>v=.tuple #[.int .i64 (Vl.place l x:Nat),.bool (Vl.hit l x)]∧Below w.heap.size w w'):=by
 refine ret_of fun K hK=>S_foliantref05_place_ok ?_;unfold S_foliantref05_place;refine loop (fun vs w'=>∃i:Nat,vs=[.int .i64 i]∧i≤l.length∧(∀m (h:m < l.length),m < i→Vl.less l[m] x=true)∧w=w') (fun vs _=>l.length - n0 vs) ⟨0,rfl,by omega,fun m _ h=>by omega,rfl⟩ ?_;rintro vs w2 ⟨i,rfl,hi,hlo,rfl⟩ _;simp only[S_foliantref05_place_0,gd];rw[sl_len Tryz.underlying23 ha];simp only[rs];have fin:(∀h:i < l.length,Vl.less l[i] x=false)→∀F,F=(fun C2:World→Prop=>
   QDo prog C2 (mB .len #[23] 3 #[false] #[va]) fun t24=>
   QDo prog C2 (mBin .lss 3 (.int .i64 (i:Int)) t24) fun t25=>
   GQ t25 true (fun E=>E va) fun t27=>
   GQ t25 true (fun E=>E (.int .i64 (i:Int))) fun t28=>
   GQ t25 true (fun E=>QDo prog C2 (mIA 23 t27 t28) E) fun t29=>
   GQ t25 true (fun E=>QDo prog C2 (mLoad 9 t29) E) fun t30=>
   GQ t25 true (fun E=>E (.string ⟨x.toArray⟩)) fun t31=>
   GQ t25 true (fun E=>QDo prog C2 (mEq .eql 9 (.tmp 30) (.tmp 31) t30 t31) E) fun t32=>
   QDo prog C2 (mPick t25 t32 (.bool false)) fun t33=>
   ∀w,C2 w→K (.returned (.tuple #[.int .i64 (i:Int),t33])) w)→QuietX w F:=by
  intro hge F hF;subst hF;have hp:Vl.place l x=i:=Vl.place_at hi hlo hge;refine quiet (q_at (.int .i64 (l.length:Int)) (fun W hW=>?_) (q_lss ?_))
  ·obtain⟨_,a,cap,rfl,_⟩:=ha;exact run_len_sl Tryz.underlying23
  by_cases hlt:(i:Int) < (l.length:Int)
  ·have hi':i < l.length:=by omega
   simp only[hlt,decide_true,gq];obtain⟨ba,oa,ca,rfl,hca⟩:=sl_open ha (by omega);refine q_do _ (fun _=>run_ia Tryz.underlying23 (show _=some 1 by kernel_rfl) (by omega) (by omega)) ?_;refine q_at (.string ⟨(l[i]).toArray⟩) (fun wc hw=>run_load_cell nStrI ?_) ?_
   ·rw[Int.toNat_natCast,Nat.mul_one];have:=hca i _ (strsV_get hi');exact (hw.cell (World.block_lt_of_cell? w _ this)).trans this
   refine q_seq ?_;refine q_pick ?_;intro W hW;refine hK _ _ ⟨?_,hW⟩;rw[hp];unfold Vl.hit;rw[hp,List.getElem?_eq_getElem hi'];simp
  ·simp only[hlt,decide_false,gq];refine q_pick ?_;intro W hW;refine hK _ _ ⟨?_,hW⟩;rw[hp];unfold Vl.hit;rw[hp,List.getElem?_eq_none (by omega)];simp
 by_cases hlt:(i:Int) < (l.length:Int)
 ·have hi':i < l.length:=by omega
  simp only[hlt,decide_true,rs];refine sl_ia1 (.string ⟨(l[i]).toArray⟩) Tryz.underlying23 (by kernel_rfl) ha (by omega) (by rw[Int.toNat_natCast];exact strsV_get hi') fun q hq=>?_;rw[l_cell nStrI hq];simp only[s_lss];cases hc:Op.bytesLess l[i] x with
 |true=>
   simp only[rs];rw[wrap64_id (by omega) (by omega)];refine nextX ⟨i+1,rfl,by omega,fun m hm hmi=>?_,rfl⟩ (by simp[n0,RowKit.intOf];omega);rcases Nat.lt_or_ge m i with h|h
   ·exact hlo m hm h
   ·have:m=i:=by omega
    subst this;exact hc
 |false=>
   simp only[rs];exact fin (fun _=>hc) _ rfl
 ·simp only[hlt,decide_false,rs,g_un];exact fin (fun h=>absurd h (by omega)) _ rfl
end
section
open Go
namespace Vl
theorem tot_split (l:List (List UInt8))(i:Nat):Pl.tot (l.take i)+Pl.tot (l.drop i)=Pl.tot l:=by
 rw[←Pl.tot_append,List.take_append_drop]
theorem wts_app:∀a b:List Ob,Ob.wts (a++b)=Ob.wts a+Ob.wts b
|[],b=>by rw[List.nil_append,Ob.wts];omega
|o::a,b=>by rw[List.cons_append,Ob.wts,Ob.wts,wts_app a b];omega
theorem wts_split (l:List Ob)(i:Nat):Ob.wts (l.take i)+Ob.wts (l.drop i)=Ob.wts l:=by
 rw[←wts_app,List.take_append_drop]
theorem drop_tot (l:List (List UInt8))(i j:Nat)(h:i≤j):Pl.tot (l.drop j)≤Pl.tot (l.drop i):=by
 have:=tot_split (l.drop i) (j - i);rw[List.drop_drop,show i+(j - i)=j by omega] at this;omega
theorem drop_wts (l:List Ob)(i j:Nat)(h:i≤j):Ob.wts (l.drop j)≤Ob.wts (l.drop i):=by
 have:=wts_split (l.drop i) (j - i);rw[List.drop_drop,show i+(j - i)=j by omega] at this;omega
theorem wt_eq (o:Ob):o.wt=6+o.s.length+Pl.tot o.keys+Ob.wts o.kids:=by cases o;rw[Ob.wt];rfl
theorem put_wt (o:Ob)(key:List UInt8)(v:Ob):(put o key v).wt≤o.wt+(key.length+1)+v.wt:=by
 rw[wt_eq (put o key v),wt_eq o];rw[show (put o key v).s=o.s from rfl,show (put o key v).keys=o.keys.take (place o.keys key)++key::o.keys.drop (place o.keys key+if hit o.keys key then 1 else 0) from rfl,
  show (put o key v).kids=o.kids.take (place o.keys key)++v::o.kids.drop (place o.keys key+if hit o.keys key then 1 else 0) from rfl]
 rw[Pl.tot_append,wts_app];have h1:=tot_split o.keys (place o.keys key);have h2:=drop_tot o.keys (place o.keys key) (place o.keys key+if hit o.keys key then 1 else 0) (by omega);have h3:=wts_split o.kids (place o.keys key);have h4:=drop_wts o.kids (place o.keys key) (place o.keys key+if hit o.keys key then 1 else 0) (by omega);have h5:∀l,Pl.tot (key::l)=key.length+1+Pl.tot l:=fun l=>by simp[Pl.tot]
 rw[h5,Ob.wts];omega
theorem get_wt {o:Ob}{key:List UInt8}:((get o key).getD ob0).wt≤o.wt:=by
 have h0:ob0.wt≤o.wt:=by
  rw[wt_eq ob0,wt_eq o];show 6+0+Pl.tot []+Ob.wts []≤_;simp[Pl.tot,Ob.wts];omega
 unfold get;split
 ·split
  ·rcases hx:o.kids[o.keys.idxOf key]? with _|x
   ·exact h0
   ·obtain⟨hi,rfl⟩:=List.getElem?_eq_some_iff.1 hx;have h1:=wts_split o.kids (o.keys.idxOf key);rw[List.drop_eq_getElem_cons hi,Ob.wts] at h1;rw[wt_eq o];simp only[Option.getD_some];omega
  ·exact h0
 ·exact h0
end Vl
end
section
open Eng Go.RowKit
section
variable {w:World}{S:Nat→Prop}{w0:World}{L:List Ent}{PK:PKT}{K:VWP}
theorem o_obs1 (o:Ob){vk vc:Value}(hk:vk.oneCell'=true)(hc:vc.oneCell'=true)(ho:OwnS S w0 w L)(k:∀b w',OwnS S w0 w' (obE b o vk vc::L)→K (.slice (some ⟨b,0,none⟩) 1 1) w'):DoX prog (mBuildS 24 1 #[(0,obV o vk vc)]) w PK K:=by
 cases vk<;>first|(cases hk;done)|skip
 all_goals cases vc<;>first|(cases hc;done)|exact o_new (fun b=>.slice (some ⟨b,0,none⟩) 1 1) (obC o _ _) 26 (fun _=>by kernel_rfl) ho k
theorem o_strb1 (s:List UInt8)(ho:OwnS S w0 w L)(k:∀b w',OwnS S w0 w' (.cells b [.string ⟨s.toArray⟩] 9::L)→K (.slice (some ⟨b,0,none⟩) 1 1) w'):DoX prog (mBuildS 23 1 #[(0,.string ⟨s.toArray⟩)]) w PK K:=
 o_new (fun b=>.slice (some ⟨b,0,none⟩) 1 1) [.string ⟨s.toArray⟩] 9 (fun _=>by kernel_rfl) ho k
end
theorem strsV_take (l:List (List UInt8))(i:Nat):(strsV l).take (i*1)=strsV (l.take i):=by rw[Nat.mul_one];simp[strsV]
theorem strsV_drop (l:List (List UInt8))(i:Nat):(strsV l).drop (i*1)=strsV (l.drop i):=by rw[Nat.mul_one];simp[strsV]
theorem strsV_app (a b:List (List UInt8)):strsV (a++b)=strsV a++strsV b:=by simp[strsV]
theorem ovs_take {A:Nat→Prop}{w:World}:∀{os:List Ob} {cs:List Value} (i:Nat),OVs A w cs os→OVs A w (cs.take (i*6)) (os.take i)
|_,_,0,_=>by rw[Nat.zero_mul,List.take_zero,List.take_zero];exact OVs.nil
|[],cs,i+1,h=>by rw[OVs] at h;subst h;rw[List.take_nil,List.take_nil];exact OVs.nil
|o::os,cs,i+1,h=>by
  rw[OVs] at h;obtain⟨a,rest,rfl,hl,h1,h2⟩:=h;have e:(a++rest).take ((i+1)*6)=a++rest.take (i*6):=by
   rw[List.take_append,List.take_of_length_le (by omega)]
   congr 2
   omega
  rw[e,List.take_succ_cons,OVs];exact⟨a,_,rfl,hl,h1,ovs_take i h2⟩
theorem ovs_drop {A:Nat→Prop}{w:World}:∀{os:List Ob} {cs:List Value} (i:Nat),OVs A w cs os→OVs A w (cs.drop (i*6)) (os.drop i)
|_,_,0,h=>by rw[Nat.zero_mul,List.drop_zero,List.drop_zero];exact h
|[],cs,i+1,h=>by rw[OVs] at h;subst h;rw[List.drop_nil,List.drop_nil];exact OVs.nil
|o::os,cs,i+1,h=>by
  rw[OVs] at h;obtain⟨a,rest,rfl,hl,h1,h2⟩:=h;have e:(a++rest).drop ((i+1)*6)=rest.drop (i*6):=by
   rw[List.drop_append,List.drop_eq_nil_of_le (by omega),List.nil_append]
   congr 1
   omega
  rw[e,List.drop_succ_cons];exact ovs_drop i h2
end
section
open Eng Go.RowKit
theorem Sl.upto {w:World}{a:Option Addr}{n cap sz i:Nat}{cs:List Value}(h:Sl w (.slice a n cap) sz n cs)(hi:i≤n):Sl w (.slice (subA a 0 cap sz) i cap) sz i (cs.take (i*sz)):=by
 obtain⟨hl,a',cap',e,h1,h2⟩:=h
 injection e with e1 _ e3
 subst e1;subst e3;refine⟨by rw[List.length_take,hl,Nat.min_eq_left (Nat.mul_le_mul_right _ hi)],subA a 0 cap sz,cap,rfl,?_,?_⟩
 ·intro hn;cases a with
 |none=>have:=h1 rfl;omega
 |some p=>unfold subA at hn;split at hn<;>simp at hn
 ·intro p hp;cases a with
 |none=>unfold subA at hp;split at hp<;>simp at hp
 |some q=>
   have hq:q=p:=by
    unfold subA at hp;split at hp
    ·exact Option.some.inj hp
    ·have:=Option.some.inj hp;rw[←this];simp[Addr.add]
   subst hq;refine⟨fun h=>(h2 q rfl).1 (by omega),fun j u hj=>(h2 q rfl).2 j u ?_⟩;rw[List.getElem?_take] at hj;split at hj<;>first|exact hj|cases hj
theorem Sl.from {w:World}{a:Option Addr}{n cap sz i:Nat}{cs:List Value}(h:Sl w (.slice a n cap) sz n cs)(hi:i≤n)(hc:n≤cap):Sl w (.slice (subA a i cap sz) (n - i) (cap - i)) sz (n - i) (cs.drop (i*sz)):=by
 obtain⟨hl,a',cap',e,h1,h2⟩:=h
 injection e with e1 _ e3
 subst e1;subst e3;refine⟨by rw[List.length_drop,hl,←Nat.mul_sub_right_distrib],subA a i cap sz,cap - i,rfl,?_,?_⟩
 ·intro hn;cases a with
 |none=>have:=h1 rfl;omega
 |some p=>unfold subA at hn;split at hn<;>simp at hn
 ·intro p hp;cases a with
 |none=>unfold subA at hp;split at hp<;>simp at hp
 |some q=>
   by_cases hci:cap=i
   ·have hn:n - i=0:=by omega
    refine⟨fun h=>by omega,fun j u hj=>?_⟩;have:(cs.drop (i*sz)).length=0:=by rw[List.length_drop,hl,←Nat.mul_sub_right_distrib,hn,Nat.zero_mul]
    have:=(List.getElem?_eq_some_iff.1 hj).1;omega
   ·unfold subA at hp;rw[if_neg hci,Option.map_some] at hp
    injection hp with hp
    have hsz:0 < n - i→q.spot=none:=fun h=>(h2 q rfl).1 (by omega);refine⟨fun h=>?_,fun j u hj=>?_⟩
    ·have hs:=hsz h;rw[←hp];obtain⟨b,off,spot⟩:=q;simp only at hs;subst hs;rw[add_none]
    ·rw[List.getElem?_drop] at hj;have hc2:=(h2 q rfl).2 (i*sz+j) u hj;have hjl:=(List.getElem?_eq_some_iff.1 hj).1;have hs:q.spot=none:=(h2 q rfl).1 (by
      rcases Nat.eq_zero_or_pos n with h0|h0
      ·rw[hl,h0,Nat.zero_mul] at hjl;omega
      ·exact h0)
     rw[←hp];obtain⟨b,off,spot⟩:=q;simp only at hs;subst hs;rw[add_none,Nat.add_assoc];exact hc2
theorem SlA.form {A:Nat→Prop}{w:World}{v:Value}{sz n:Nat}{cs:List Value}(h:SlA A w v sz n cs):∃a cap,v=.slice a n cap∧n≤cap:=by
 obtain⟨⟨_,a,cap,rfl,_⟩,_,h3⟩:=h;exact⟨a,cap,rfl,h3 a n cap rfl⟩
end
section
open Eng Go.RowKit
theorem elStr:elB prog 9 1 16=true:=by kernel_rfl
theorem elOb:elB prog 26 6 88=true:=by kernel_rfl
theorem szStr:(Tryz.prog.info? 9).map (·.size)=some 1:=by kernel_rfl
section
variable {w:World}{S:Nat→Prop}{w0:World}{L:List Ent}{PK:PKT}{K:VWP}
theorem o_strb0 (ho:OwnS S w0 w L)(k:∀v w',OwnS S w0 w' (.urow 9 1 v 0 []::L)→K v w'):DoX prog (mBuildS 23 0 #[]) w PK K:=
 o_new (fun b=>.slice (some ⟨b,0,none⟩) 0 0) [] 9 (fun _=>by kernel_rfl) ho fun b w1 ho=>k _ _ (ho.toU 1 0 0 (by simp) (by omega) (by omega))
theorem o_obs0 (ho:OwnS S w0 w L)(k:∀v w',OwnS S w0 w' (.urow 26 6 v 0 []::L)→K v w'):DoX prog (mBuildS 24 0 #[]) w PK K:=
 o_new (fun b=>.slice (some ⟨b,0,none⟩) 0 0) [] 26 (fun _=>by kernel_rfl) ho fun b w1 ho=>k _ _ (ho.toU 6 0 0 (by simp) (by omega) (by omega))
theorem o_apS (i:Nat){v v2:Value}{n m:Nat}{xs news:List Value}{cb:Array Bool}(ho:OwnS S w0 w L)(hi:L[i]?=some (.urow 9 1 v n xs))(hs:Sl w v2 1 m news)(h1:∀u∈news,u.oneCell'=true)(hb:n+m≤1000000000000)
  (k:∀v' w',OwnS S w0 w' (L.set i (.urow 9 1 v' (n+m) (xs++news)))→K v' w'):DoX prog (mB .append #[23,23] 23 cb #[v,v2]) w PK K:=
 o_appendU i Tryz.underlying23 elStr (by decide) ho hi hs h1 (by omega) (by omega) k
theorem o_apO (i:Nat){v v2:Value}{n m:Nat}{xs news:List Value}{cb:Array Bool}(ho:OwnS S w0 w L)(hi:L[i]?=some (.urow 26 6 v n xs))(hs:Sl w v2 6 m news)(h1:∀u∈news,u.oneCell'=true)(hb:n+m≤1000000000000)
  (k:∀v' w',OwnS S w0 w' (L.set i (.urow 26 6 v' (n+m) (xs++news)))→K v' w'):DoX prog (mB .append #[24,24] 24 cb #[v,v2]) w PK K:=
 o_appendU i Tryz.underlying24 elOb (by decide) ho hi hs h1 (by omega) (by omega) k
end
theorem one_drop {l:List Value}{i:Nat}(h:∀u∈l,u.oneCell'=true):∀u∈l.drop i,u.oneCell'=true:=fun u hu=>h u (List.mem_of_mem_drop hu)
theorem one_take {l:List Value}{i:Nat}(h:∀u∈l,u.oneCell'=true):∀u∈l.take i,u.oneCell'=true:=fun u hu=>h u (List.mem_of_mem_take hu)
theorem rput_ret (o x:Ob)(v u:Value)(key:List UInt8)(M:Mem)(w:World)(hw:o.wt≤10000000000)(hM:M.has w)(hv:OV M.A M.w v o)(hu:OV M.A M.w u x)(hlen:o.keys.length=o.kids.length) :
  RetM prog 48 #[v,.string ⟨key.toArray⟩,u] M w (fun r N=>OV N.A N.w r (Vl.put o key x)):=by
 obtain⟨vk,vc,cs,rfl,ha⟩:=hv.open;obtain⟨xk,xc,xcs,rfl,hx⟩:=hu.open;have hww:Ob.wts o.kids≤10000000000:=by cases o;rw[Ob.wt] at hw;simp only[Ob.kids];omega
 have hkt:Pl.tot o.keys≤10000000000:=by cases o;rw[Ob.wt] at hw;simp only[Ob.keys];omega
 have hkl:=Pl.length_tot o.keys;have hlk:=Ob.len_wts o.kids;have hple:=Vl.place_le o.keys key;obtain⟨ak,ck,rfl,hck⟩:=ha.keys.form;obtain⟨ac,cc,rfl,hcc⟩:=ha.kids.form;refine retM_of hM fun K hK=>S_foliantref05_put_ok ?_;unfold S_foliantref05_put;refine o_obb o ha.keys.one ha.kids.one (OwnS.memS hM) fun b3 w1 ho=>?_;refine o_obb x hx.keys.one hx.kids.one ho fun b5 w2 ho=>?_;refine o_oba ho fun b6 w3 ho=>?_;rw[fa_o4,ob_keys ho 2 rfl];refine c_below ho (R:=fun v=>v=.tuple #[.int .i64 (Vl.place o.keys key:Nat),.bool (Vl.hit o.keys key)]) (rplace_ret _ o.keys key w3 (ha.keys.now (ho.hasM 3 rfl)) (by omega)) ?_;rintro _ w4 rfl ho;simp only[ex];refine o_strb0 ho fun v1 w5 ho=>?_;rw[fa_o4,ob_keys ho 3 rfl];refine do_eq (run_sl_h Tryz.underlying23 szStr (by omega) (by omega)) |>.mpr ?_;rw[Int.toNat_natCast];refine o_apS 0 ho rfl (Sl.upto (ha.keys.now (ho.hasM 4 rfl)) hple) (one_take strsV_one5) (by omega) fun v2 w6 ho=>?_;rw[strsV_take,List.nil_append,Nat.zero_add] at ho;have ho:OwnS M.A w w6 [.urow 9 1 v2 (Vl.place o.keys key) (strsV (o.keys.take (Vl.place o.keys key))),obE b6 ob0 nilS nilS,obE b5 x xk xc,obE b3 o (.slice ak o.keys.length ck) (.slice ac o.kids.length cc),.mem M]:=ho;refine o_obs0 ho fun v3 w7 ho=>?_;rw[fa_o5,ob_kids ho 4 rfl];refine do_eq (run_sl_h Tryz.underlying24 szOb (by omega) (by omega)) |>.mpr ?_;rw[Int.toNat_natCast];refine o_apO 0 ho rfl (Sl.upto (ha.kids.now (ho.hasM 5 rfl)) (by omega)) (one_take (ovs_one ha.all)) (by omega) fun v4 w8 ho=>?_;rw[List.nil_append,Nat.zero_add] at ho;have ho:OwnS M.A w w8 [.urow 26 6 v4 (Vl.place o.keys key) (cs.take (Vl.place o.keys key*6)),.urow 9 1 v2 (Vl.place o.keys key) (strsV (o.keys.take (Vl.place o.keys key))),obE b6 ob0 nilS nilS,obE b5 x xk xc,obE b3 o (.slice ak o.keys.length ck) (.slice ac o.kids.length cc),.mem M]:=ho;refine o_strb1 key ho fun nb w9 ho=>?_;refine o_apS 2 ho rfl (ho.sl 0 rfl 1 1 1 rfl) (by simp[Value.oneCell']) (by omega) fun v5 w10 ho=>?_;have ho:=ho.tail;have ho:OwnS M.A w w10 [.urow 26 6 v4 (Vl.place o.keys key) (cs.take (Vl.place o.keys key*6)),.urow 9 1 v5 (Vl.place o.keys key+1) (strsV (o.keys.take (Vl.place o.keys key))++[.string ⟨key.toArray⟩]),obE b6 ob0 nilS nilS,obE b5 x xk xc,obE b3 o (.slice ak o.keys.length ck) (.slice ac o.kids.length cc),.mem M]:=ho;rw[ob_v ho 3 rfl];refine o_obs1 x hx.keys.one hx.kids.one ho fun nb2 w11 ho=>?_;refine o_apO 1 ho rfl (ho.sl 0 rfl 6 1 1 rfl) (obC_one _ hx.keys.one hx.kids.one) (by omega) fun v6 w12 ho=>?_;have ho:=ho.tail;have ho:OwnS M.A w w12 [.urow 26 6 v6 (Vl.place o.keys key+1) (cs.take (Vl.place o.keys key*6)++obC x xk xc),.urow 9 1 v5 (Vl.place o.keys key+1) (strsV (o.keys.take (Vl.place o.keys key))++[.string ⟨key.toArray⟩]),obE b6 ob0 nilS nilS,obE b5 x xk xc,obE b3 o (.slice ak o.keys.length ck) (.slice ac o.kids.length cc),.mem M]:=ho;refine join fun J hJ=>?_;have fin:∀j:Nat,j=Vl.place o.keys key+(if Vl.hit o.keys key then 1 else 0)→j≤o.keys.length→J [.int .i64 (j:Int)] w12:=by
  intro j hj hjl;refine hJ _ _ fun _=>?_;simp only[S_foliantref05_put_0,gd];rw[fa_o4,ob_keys ho 4 rfl];refine do_eq (run_sl_l Tryz.underlying23 szStr (by omega) (by omega)) |>.mpr ?_;rw[Int.toNat_natCast];refine o_apS 1 ho rfl (Sl.from (ha.keys.now (ho.hasM 5 rfl)) hjl hck) (one_drop strsV_one5) (by omega) fun v7 w13 ho=>?_;rw[strsV_drop] at ho;have ho:OwnS M.A w w13 [.urow 26 6 v6 (Vl.place o.keys key+1) (cs.take (Vl.place o.keys key*6)++obC x xk xc),.urow 9 1 v7 (Vl.place o.keys key+1+(o.keys.length - j)) (strsV (o.keys.take (Vl.place o.keys key))++[.string ⟨key.toArray⟩]++strsV (o.keys.drop j)),obE b6 ob0 nilS nilS,obE b5 x xk xc,obE b3 o (.slice ak o.keys.length ck) (.slice ac o.kids.length cc),.mem M]:=ho;have hk1:=urow_one (ho.at_ 1 rfl);rw[fa_o4];refine o_store 4 ho rfl (by kernel_rfl) hk1 (show 0+4 < 6 by omega) fun w14 ho=>?_;have ho:OwnS M.A w w14 [.urow 26 6 v6 (Vl.place o.keys key+1) (cs.take (Vl.place o.keys key*6)++obC x xk xc),.urow 9 1 v7 (Vl.place o.keys key+1+(o.keys.length - j)) (strsV (o.keys.take (Vl.place o.keys key))++[.string ⟨key.toArray⟩]++strsV (o.keys.drop j)),obE b6 ob0 nilS nilS,obE b5 x xk xc,obE b3 o v7 (.slice ac o.kids.length cc),.mem M]:=ho;rw[fa_o5,ob_kids ho 4 rfl];refine do_eq (run_sl_l Tryz.underlying24 szOb (by omega) (by omega)) |>.mpr ?_;rw[Int.toNat_natCast];refine o_apO 0 ho rfl (Sl.from (ha.kids.now (ho.hasM 5 rfl)) (by omega) hcc) (one_drop (ovs_one ha.all)) (by omega) fun v8 w15 ho=>?_;have ho:OwnS M.A w w15 [.urow 26 6 v8 (Vl.place o.keys key+1+(o.kids.length - j)) (cs.take (Vl.place o.keys key*6)++obC x xk xc++cs.drop (j*6)),.urow 9 1 v7 (Vl.place o.keys key+1+(o.keys.length - j)) (strsV (o.keys.take (Vl.place o.keys key))++[.string ⟨key.toArray⟩]++strsV (o.keys.drop j)),obE b6 ob0 nilS nilS,obE b5 x xk xc,obE b3 o v7 (.slice ac o.kids.length cc),.mem M]:=ho;have hc1:=urow_one (ho.at_ 0 rfl);rw[fa_o5];refine o_store 4 ho rfl (by kernel_rfl) hc1 (show 0+5 < 6 by omega) fun w16 ho=>?_;obtain⟨N,hle,hrow,ho⟩:=OwnS.freezeU (L:=[.urow 9 1 v7 (Vl.place o.keys key+1+(o.keys.length - j)) (strsV (o.keys.take (Vl.place o.keys key))++[.string ⟨key.toArray⟩]++strsV (o.keys.drop j)),obE b6 ob0 nilS nilS,obE b5 x xk xc,obE b3 o v7 v8,.mem M]) ho 4 rfl;obtain⟨N2,hle2,hrow2,ho⟩:=OwnS.freezeU (L:=[obE b6 ob0 nilS nilS,obE b5 x xk xc,obE b3 o v7 v8,.mem N]) ho 3 rfl;have ho:OwnS M.A w w16 [obE b6 ob0 nilS nilS,obE b5 x xk xc,obE b3 o v7 v8,.mem N2]:=ho;rw[ob_v ho 2 rfl];refine ob_put 0 hk1 hc1 ho rfl fun w17 ho=>?_;refine ret_v1 (rv_cell (ho.agg 0 rfl aggOb)) (hK _ _ N2 _ 3 ho rfl (hle.trans hle2) ?_);have e:Vl.put o key x=.mk o.k o.n o.g o.s (o.keys.take (Vl.place o.keys key)++key::o.keys.drop j) (o.kids.take (Vl.place o.keys key)++x::o.kids.drop j):=by rw[hj];rfl
  rw[e];have el:(o.kids.take (Vl.place o.keys key)++x::o.kids.drop j).length=Vl.place o.keys key+1+(o.kids.length - j):=by simp;omega
  have el2:(o.keys.take (Vl.place o.keys key)++key::o.keys.drop j).length=Vl.place o.keys key+1+(o.keys.length - j):=by simp;omega
  have es:strsV (o.keys.take (Vl.place o.keys key)++key::o.keys.drop j)=strsV (o.keys.take (Vl.place o.keys key))++[.string ⟨key.toArray⟩]++strsV (o.keys.drop j):=by
   rw[strsV_app];simp[strsV,strV]
  refine ObAt.ov (o:=.mk o.k o.n o.g o.s (o.keys.take (Vl.place o.keys key)++key::o.keys.drop j) (o.kids.take (Vl.place o.keys key)++x::o.kids.drop j)) (vk:=v7) (vc:=v8) (cs:=cs.take (Vl.place o.keys key*6)++obC x xk xc++cs.drop (j*6)) ⟨?_,?_,?_⟩
  ·show SlA N2.A N2.w v7 1 (o.keys.take (Vl.place o.keys key)++key::o.keys.drop j).length (strsV (o.keys.take (Vl.place o.keys key)++key::o.keys.drop j));rw[el2,es];exact hrow2
  ·show SlA N2.A N2.w v8 6 (o.kids.take (Vl.place o.keys key)++x::o.kids.drop j).length _;rw[el];exact hrow.le hle2
  ·have:=ovs_app (ovs_take (Vl.place o.keys key) ha.all) (ovs_app (ovs_1 hu) (ovs_drop j ha.all));rw[←List.append_assoc] at this;exact this.le (hle.trans hle2)
 cases hh:Vl.hit o.keys key with
|true=>
  have hi:o.keys[Vl.place o.keys key]?=some key:=of_decide_eq_true hh;have hlt:Vl.place o.keys key < o.keys.length:=(List.getElem?_eq_some_iff.1 hi).1;simp only[rs];rw[wrap64_id (by omega) (by omega),show (Vl.place o.keys key:Int)+1=((Vl.place o.keys key+1:Nat):Int) by omega];exact fin _ (by rw[hh];rfl) (by omega)
|false=>
  simp only[i_f];exact fin _ (by rw[hh];rfl) hple
end
end Go.Proofs.YtoobidofdpdkbaaGreatDoor

namespace Go.Proofs.YtoobidofdpdkbaaGreatDoor
section
open Eng Go.RowKit
theorem Sl.cellAt {w:World}{b off cap sz n:Nat}{cs:List Value}(h:Sl w (.slice (some ⟨b,off,none⟩) n cap) sz n cs):∀j u,cs[j]?=some u→w.cell? ⟨b,off+j,none⟩=some u:=by
 obtain⟨_,a,cap',e,_,h2⟩:=h
 injection e with e1 _ _
 exact fun j u hj=>(h2 _ e1.symm).2 j u hj
end
section
open Go
structure It where
 num:Int
 gen:Int
 obj:Ob
structure Dc where
 items:List It
 trailer:Ob
namespace Dk
def typeK:List UInt8:=[84,121,112,101]
def objStm:List UInt8:=[79,98,106,83,116,109]
def xref:List UInt8:=[88,82,101,102]
def rootK:List UInt8:=[82,111,111,116]
def infoK:List UInt8:=[73,110,102,111]
def idK:List UInt8:=[73,68]
def it0:It:=⟨0,0,Vl.ob0⟩
def dc0:Dc:=⟨[],Vl.ob0⟩
def kind (o:Ob):List UInt8:=if ((Vl.get o typeK).getD Vl.ob0).k≠5 then [] else ((Vl.get o typeK).getD Vl.ob0).s
def holds (o:Ob):Bool:=decide (o.k=9)&&(decide (kind o=objStm)||decide (kind o=xref))
def numbers (i:It):Bool:=decide (1≤i.num)&&decide (i.num≤8191)&&decide (0≤i.gen)&&decide (i.gen≤65535)
def content (i:It):Int:=if Vl.check 1 i.obj≠0 then Vl.check 1 i.obj else if i.obj.k=8∨holds i.obj=true then 10 else 0
def itemsG (last:Option Int):List It→Int
|[]=>0
|i::l=>if numbers i=false then 2 else if last.any (fun n=>decide (i.num≤n)) then 9 else if content i≠0 then content i else itemsG (some i.num) l
def find (l:List It)(n:Int):Option It:=l.find? fun i=>decide (i.num=n)
def pick (x:Option It)(g:Int):Ob:=match x with
|none=>Vl.ob0
|some i=>if i.gen≠g then Vl.ob0 else i.obj
def follow (d:Dc)(o:Ob):Ob:=if o.k≠8 then o else pick (find d.items o.n) o.g
def path (d:Dc)(o:Ob):List (List UInt8)→Ob
|[]=>o
|k::ks=>match Vl.get o k with
 |none=>Vl.ob0
 |some v=>path d (follow d v) ks
def known (k:List UInt8):Bool:=decide (k=idK)||decide (k=infoK)||decide (k=rootK)
def root (d:Dc):Ob:=(Vl.get d.trailer rootK).getD Vl.ob0
def trail (d:Dc):Int:=
 if Vl.check 1 d.trailer≠0 then Vl.check 1 d.trailer
 else if d.trailer.k≠7 then 10
 else if d.trailer.keys.all known=false then 3
 else if (root d).k≠8∨(follow d (root d)).k≠7 then 22 else 0
def check (d:Dc):Int:=if itemsG none d.items≠0 then itemsG none d.items else trail d
def size (d:Dc):Nat:=Vl.size d.trailer+(d.items.map fun i=>Vl.size i.obj).sum
end Dk
end
section
open Eng Go.RowKit Go.ChangeShapes Go.WideShapes
inductive Rws {α:Type} (R:List Value→α→Prop):List Value→List α→Prop
|nil:Rws R [] []
|cons {a rest:List Value} {x:α} {xs:List α}:R a x→Rws R rest xs→Rws R (a++rest) (x::xs)
section
variable {α:Type}{R R':List Value→α→Prop}
theorem Rws.snoc {a:List Value}{x:α}(hx:R a x):∀{cs:List Value} {xs:List α},Rws R cs xs→Rws R (cs++a) (xs++[x])
|_,_,.nil=>by
  have:=Rws.cons hx (Rws.nil (R:=R));simpa using this
|_,_,.cons h t=>by
  rw[List.append_assoc,List.cons_append];exact .cons h (Rws.snoc hx t)
theorem Rws.mono (h:∀a x,R a x→R' a x):∀{cs:List Value} {xs:List α},Rws R cs xs→Rws R' cs xs
|_,_,.nil=>.nil
|_,_,.cons hx t=>.cons (h _ _ hx) (Rws.mono h t)
theorem Rws.get {n:Nat}(hn:∀a x,R a x→a.length=n):∀{cs:List Value} {xs:List α} (i:Nat) (hi:i < xs.length),Rws R cs xs→∃a,R a xs[i]∧∀j v,a[j]?=some v→cs[i*n+j]?=some v
|_,_,i,hi,.nil=>by simp at hi
|_,_,0,_,.cons (a:=a) (rest:=rest) hx t=>⟨a,hx,fun j v hj=>by
  rw[Nat.zero_mul,Nat.zero_add,List.getElem?_append_left (List.getElem?_eq_some_iff.1 hj).1];exact hj⟩
|_,_,i+1,hi,.cons (a:=a) (rest:=rest) hx t=>by
  obtain⟨b,hb,hc⟩:=Rws.get hn i (by simpa using hi) t;have hl:=hn _ _ hx;refine⟨b,hb,fun j v hj=>?_⟩;have e:(i+1)*n+j=a.length+(i*n+j):=by rw[hl,Nat.add_mul];omega
  rw[e,List.getElem?_append_right (by omega),show a.length+(i*n+j) - a.length=i*n+j by omega];exact hc j v hj
end
section
variable {H:Type}{enc:TypeId×Value→H}{W:World}{sp:Nat→Bool}{held:Bool}
theorem open_slice_of {E T:TypeId}{n:Nat}{α:Type}{R:List Value→α→Prop}{wt:α→Nat}(ht:Tryz.prog.underlying T=some (.slice E))(hc:Tryz.prog.cellsOf E=n)(hn:0 < n)
  (hel:∀fuel cs x,DataW.trod enc prog W 0 sp held fuel E cs=some x→∃a,R cs a∧cs.length=n∧wt a≤Rows.uptoBulk x.1)
  {fuel:Nat} {cs:List Value} {x:DataW H×List MemPlace} (h:DataW.trod enc prog W 0 sp held fuel T cs=some x) :
  ∃(v:Value) (ds:List Value) (xs:List α),cs=[v]∧SlA (InW W) W v n xs.length ds∧Rws R ds xs∧xs.length≤9223372036854775807∧(xs.map wt).sum+1≤Rows.uptoBulk x.1:=by
 rcases DataW.trod_slice ht h with ⟨rfl,rfl⟩|⟨a,len,cap,elems,rest,n',rfl,rfl,rfl,_,hlc,hcm,hel2,hat,_,_⟩
 ·exact⟨_,[],[],rfl,SlA.nil _ _ _ _,.nil,by simp,by simp[Rows.uptoBulk]⟩
 ·rw[hc] at hat;have step:∀k,k≤len→∃(cs:List Value) (os:List α),os.length=k∧cs.length=k*n∧Rws R cs os∧(∀j u,cs[j]?=some u→W.cell? (a.add j)=some u)∧(os.map wt).sum≤Rows.uptoBulkAll ((elems.take k).map (·.1)):=by
   intro k
   induction k with
  |zero=>intro _;exact⟨[],[],rfl,by simp,.nil,(fun j u hj=>by simp at hj),by simp[Rows.uptoBulkAll]⟩
  |succ k ihk=>
    intro hk;obtain⟨cs,os,h1,hcl,h2,h3,h4⟩:=ihk (by omega);have hki:k < elems.length:=by omega
    have hb:=hat k (by omega);rw[List.getElem?_eq_getElem hki,Option.bind_eq_some_iff] at hb;obtain⟨ck,hck,htr⟩:=hb;obtain⟨o,ho,hlo,hw⟩:=hel n' ck _ htr;refine⟨cs++ck,os++[o],by simp[h1],by rw[List.length_append,hcl,hlo,Nat.add_mul,Nat.one_mul],Rws.snoc ho h2,fun j u hj=>?_,?_⟩
    ·rcases Nat.lt_or_ge j cs.length with hj1|hj1
     ·rw[List.getElem?_append_left hj1] at hj;exact h3 j u hj
     ·rw[List.getElem?_append_right hj1] at hj;have hj6:j - cs.length < n:=by
       have:=(List.getElem?_eq_some_iff.1 hj).1;omega
      have:=(World.cells?_some hck).2.2 (j - cs.length) hj6;rw[←hj,←this,addr_add,show k*n+(j - cs.length)=j by omega]
    ·rw[List.take_succ_eq_append_getElem hki,List.map_append,List.map_append,bulkAll_append,List.sum_append];simp only[List.map_cons,List.map_nil,Rows.uptoBulkAll,List.sum_cons,List.sum_nil];omega
  obtain⟨cs,os,h1,hcl,h2,h3,h4⟩:=step len (Nat.le_refl _);refine⟨_,cs,os,rfl,?_,h2,?_,?_⟩
  ·rw[h1];exact SlA.of_cells hn (by rw[hcl]) h3 (fun b hb=>hb) hlc
  ·rw[h1];simp only[maxLen] at hcm;omega
  ·rw[←hel2,List.take_length] at h4;simp only[Rows.uptoBulk];omega
end
end
section
open Eng Go.RowKit
def itC (i:It)(vk vc:Value):List Value:=.int .i64 i.num::.int .i64 i.gen::obC i.obj vk vc
def itV (i:It)(vk vc:Value):Value:=.agg (itC i vk vc).toArray
def itE (b:Nat)(i:It)(vk vc:Value):Ent:=.cells b (itC i vk vc) 53
def itR (A:Nat→Prop)(w:World)(a:List Value)(i:It):Prop:=∃vk vc,a=itC i vk vc∧OV A w (obV i.obj vk vc) i.obj
abbrev IVs (A:Nat→Prop)(w:World)(cs:List Value)(l:List It):Prop:=Rws (itR A w) cs l
def dcC (d:Dc)(vi vk vc:Value):List Value:=vi::obC d.trailer vk vc
def dcV (d:Dc)(vi vk vc:Value):Value:=.agg (dcC d vi vk vc).toArray
def dcE (b:Nat)(d:Dc)(vi vk vc:Value):Ent:=.cells b (dcC d vi vk vc) 28
structure DocAt (A:Nat→Prop) (w:World) (d:Dc) (vi vk vc:Value) (cs:List Value):Prop where
 items:SlA A w vi 8 d.items.length cs
 all:IVs A w cs d.items
 trailer:OV A w (obV d.trailer vk vc) d.trailer
def DV (A:Nat→Prop)(w:World)(v:Value)(d:Dc):Prop:=∃vi vk vc cs,v=dcV d vi vk vc∧DocAt A w d vi vk vc cs
theorem itR_len {A:Nat→Prop}{w:World}:∀a i,itR A w a i→a.length=8:=by
 rintro a i ⟨vk,vc,rfl,_⟩;rfl
theorem obV_inj {o p:Ob}{vk vc xk xc:Value}(h:obV o vk vc=obV p xk xc):vk=xk∧vc=xc:=by
 have:(obC o vk vc).toArray=(obC p xk xc).toArray:=by injection h
 have:obC o vk vc=obC p xk xc:=by simpa using congrArg Array.toList this
 simp only[obC,List.cons.injEq,and_true] at this;exact⟨this.2.2.2.2.1,this.2.2.2.2.2⟩
theorem OV.slices {A:Nat→Prop}{w:World}{o:Ob}{vk vc:Value}(h:OV A w (obV o vk vc) o):∃cs,ObAt A w o vk vc cs:=by
 obtain⟨xk,xc,cs,e,ha⟩:=h.open;obtain⟨rfl,rfl⟩:=obV_inj e;exact⟨cs,ha⟩
theorem OV.oneK {A:Nat→Prop}{w:World}{o:Ob}{vk vc:Value}(h:OV A w (obV o vk vc) o):vk.oneCell'=true:=by obtain⟨cs,ha⟩:=h.slices;exact ha.keys.one
theorem OV.oneC {A:Nat→Prop}{w:World}{o:Ob}{vk vc:Value}(h:OV A w (obV o vk vc) o):vc.oneCell'=true:=by obtain⟨cs,ha⟩:=h.slices;exact ha.kids.one
theorem itC_one (i:It){vk vc:Value}(hk:vk.oneCell'=true)(hc:vc.oneCell'=true):∀v∈itC i vk vc,v.oneCell'=true:=by
 intro v hv;simp only[itC,List.mem_cons] at hv;rcases hv with rfl|rfl|hv
 ·rfl
 ·rfl
 ·exact obC_one i.obj hk hc v hv
theorem dcC_one (d:Dc){vi vk vc:Value}(hi:vi.oneCell'=true)(hk:vk.oneCell'=true)(hc:vc.oneCell'=true):∀v∈dcC d vi vk vc,v.oneCell'=true:=by
 intro v hv;simp only[dcC,List.mem_cons] at hv;rcases hv with rfl|hv
 ·exact hi
 ·exact obC_one d.trailer hk hc v hv
theorem itR.le {M N:Mem}(h:M.le N){a:List Value}{i:It}(hi:itR M.A M.w a i):itR N.A N.w a i:=by
 obtain⟨vk,vc,rfl,ho⟩:=hi;exact⟨vk,vc,rfl,ho.le h⟩
theorem IVs.le {M N:Mem}(h:M.le N){cs:List Value}{l:List It}(hl:IVs M.A M.w cs l):IVs N.A N.w cs l:=Rws.mono (fun _ _=>itR.le h) hl
theorem DocAt.le {M N:Mem}(h:M.le N){d:Dc}{vi vk vc:Value}{cs:List Value}(hd:DocAt M.A M.w d vi vk vc cs):DocAt N.A N.w d vi vk vc cs:=⟨hd.items.le h,IVs.le h hd.all,hd.trailer.le h⟩
theorem DocAt.dv {A:Nat→Prop}{w:World}{d:Dc}{vi vk vc:Value}{cs:List Value}(h:DocAt A w d vi vk vc cs):DV A w (dcV d vi vk vc) d:=⟨vi,vk,vc,cs,rfl,h⟩
theorem aggIt:aggN prog 53=some 8:=by kernel_rfl
theorem szIt:(Tryz.prog.info? 53).map (·.size)=some 8:=by kernel_rfl
theorem aggDc:aggN prog 28=some 7:=by kernel_rfl
theorem szDc:(Tryz.prog.info? 28).map (·.size)=some 7:=by kernel_rfl
theorem nSlIt:notAgg prog 22=true:=by kernel_rfl
theorem fo_i0:fOff prog 53 0=some 0:=by kernel_rfl
theorem fo_i1:fOff prog 53 1=some 1:=by kernel_rfl
theorem fo_i2:fOff prog 53 2=some 2:=by kernel_rfl
theorem fo_d0:fOff prog 28 0=some 0:=by kernel_rfl
theorem fo_d1:fOff prog 28 1=some 1:=by kernel_rfl
section
variable {w:World}{PK:PKT}{K:VWP}{S:Nat→Prop}{w0:World}{L:List Ent}
theorem fa_i0 {b off:Nat}:DoX prog (mFA 53 (.pointer (some ⟨b,off,none⟩)) 0) w PK K=K (.pointer (some ⟨b,off,none⟩)) w:=f_addr fo_i0
theorem fa_i1 {b off:Nat}:DoX prog (mFA 53 (.pointer (some ⟨b,off,none⟩)) 1) w PK K=K (.pointer (some ⟨b,off+1,none⟩)) w:=f_addr fo_i1
theorem fa_i2 {b off:Nat}:DoX prog (mFA 53 (.pointer (some ⟨b,off,none⟩)) 2) w PK K=K (.pointer (some ⟨b,off+2,none⟩)) w:=f_addr fo_i2
theorem fa_d0 {b off:Nat}:DoX prog (mFA 28 (.pointer (some ⟨b,off,none⟩)) 0) w PK K=K (.pointer (some ⟨b,off,none⟩)) w:=f_addr fo_d0
theorem fa_d1 {b off:Nat}:DoX prog (mFA 28 (.pointer (some ⟨b,off,none⟩)) 1) w PK K=K (.pointer (some ⟨b,off+1,none⟩)) w:=f_addr fo_d1
theorem o_itb (i:It){vk vc:Value}(hk:vk.oneCell'=true)(hc:vc.oneCell'=true)(ho:OwnS S w0 w L)(k:∀b w',OwnS S w0 w' (itE b i vk vc::L)→K (.pointer (some ⟨b,0,none⟩)) w'):DoX prog (mBox 53 (itV i vk vc)) w PK K:=by
 cases vk<;>first|(cases hk;done)|skip
 all_goals cases vc<;>first|(cases hc;done)|exact o_new (fun b=>.pointer (some ⟨b,0,none⟩)) (itC i _ _) 53 (fun _=>by kernel_rfl) ho k
theorem o_ita (ho:OwnS S w0 w L)(k:∀b w',OwnS S w0 w' (itE b Dk.it0 nilS nilS::L)→K (.pointer (some ⟨b,0,none⟩)) w'):DoX prog (mAlloc 53) w PK K:=
 o_new (fun b=>.pointer (some ⟨b,0,none⟩)) (itC Dk.it0 nilS nilS) 53 (fun _=>by kernel_rfl) ho k
theorem it_put (j:Nat){b:Nat}{i i':It}{vk vc vk' vc':Value}(hk:vk'.oneCell'=true)(hc:vc'.oneCell'=true)(ho:OwnS S w0 w L)(hi:L[j]?=some (itE b i vk vc))(k:∀w',OwnS S w0 w' (L.set j (itE b i' vk' vc'))→K undef w') :
  DoX prog (mStore 53 (.pointer (some ⟨b,0,none⟩)) (itV i' vk' vc')) w PK K:=o_put j ho hi (new:=itC i' vk' vc') szIt (itC_one i' hk hc) rfl k
theorem it_num (ho:OwnS S w0 w L)(j:Nat){b:Nat}{i:It}{vk vc:Value}(hi:L[j]?=some (itE b i vk vc)):DoX prog (mLoad 3 (.pointer (some ⟨b,0,none⟩))) w PK K=K (.int .i64 i.num) w:=l_cell nInt5 (ho.cell j hi 0 rfl)
theorem it_gen (ho:OwnS S w0 w L)(j:Nat){b:Nat}{i:It}{vk vc:Value}(hi:L[j]?=some (itE b i vk vc)):DoX prog (mLoad 3 (.pointer (some ⟨b,0+1,none⟩))) w PK K=K (.int .i64 i.gen) w:=l_cell nInt5 (ho.cell j hi 1 rfl)
theorem it_k (ho:OwnS S w0 w L)(j:Nat){b:Nat}{i:It}{vk vc:Value}(hi:L[j]?=some (itE b i vk vc)):DoX prog (mLoad 3 (.pointer (some ⟨b,0+2,none⟩))) w PK K=K (.int .i64 i.obj.k) w:=l_cell nInt5 (ho.cell j hi 2 rfl)
theorem it_obj (ho:OwnS S w0 w L)(j:Nat){b:Nat}{i:It}{vk vc:Value}(hi:L[j]?=some (itE b i vk vc)):DoX prog (mLoad 26 (.pointer (some ⟨b,0+2,none⟩))) w PK K=K (obV i.obj vk vc) w:=
 l_at (ho.subAgg j hi (0+2) (obC i.obj vk vc) rfl aggOb)
theorem it_v (ho:OwnS S w0 w L)(j:Nat){b:Nat}{i:It}{vk vc:Value}(hi:L[j]?=some (itE b i vk vc)):DoX prog (mLoad 53 (.pointer (some ⟨b,0,none⟩))) w PK K=K (itV i vk vc) w:=l_at (ho.agg j hi aggIt)
theorem o_dcb (d:Dc){vi vk vc:Value}(hi:vi.oneCell'=true)(hk:vk.oneCell'=true)(hc:vc.oneCell'=true)(ho:OwnS S w0 w L)(k:∀b w',OwnS S w0 w' (dcE b d vi vk vc::L)→K (.pointer (some ⟨b,0,none⟩)) w'):DoX prog (mBox 28 (dcV d vi vk vc)) w PK K:=by
 cases vi<;>first|(cases hi;done)|skip
 all_goals cases vk<;>first|(cases hk;done)|skip
 all_goals cases vc<;>first|(cases hc;done)|exact o_new (fun b=>.pointer (some ⟨b,0,none⟩)) (dcC d _ _ _) 28 (fun _=>by kernel_rfl) ho k
theorem o_dca (ho:OwnS S w0 w L)(k:∀b w',OwnS S w0 w' (dcE b Dk.dc0 nilS nilS nilS::L)→K (.pointer (some ⟨b,0,none⟩)) w'):DoX prog (mAlloc 28) w PK K:=
 o_new (fun b=>.pointer (some ⟨b,0,none⟩)) (dcC Dk.dc0 nilS nilS nilS) 28 (fun _=>by kernel_rfl) ho k
theorem dc_put (j:Nat){b:Nat}{d d':Dc}{vi vk vc vi' vk' vc':Value}(hi1:vi'.oneCell'=true)(hk:vk'.oneCell'=true)(hc:vc'.oneCell'=true)(ho:OwnS S w0 w L)(hi:L[j]?=some (dcE b d vi vk vc))(k:∀w',OwnS S w0 w' (L.set j (dcE b d' vi' vk' vc'))→K undef w') :
  DoX prog (mStore 28 (.pointer (some ⟨b,0,none⟩)) (dcV d' vi' vk' vc')) w PK K:=o_put j ho hi (new:=dcC d' vi' vk' vc') szDc (dcC_one d' hi1 hk hc) rfl k
theorem dc_items (ho:OwnS S w0 w L)(j:Nat){b:Nat}{d:Dc}{vi vk vc:Value}(hi:L[j]?=some (dcE b d vi vk vc)):DoX prog (mLoad 22 (.pointer (some ⟨b,0,none⟩))) w PK K=K vi w:=l_cell nSlIt (ho.cell j hi 0 rfl)
theorem dc_tr (ho:OwnS S w0 w L)(j:Nat){b:Nat}{d:Dc}{vi vk vc:Value}(hi:L[j]?=some (dcE b d vi vk vc)):DoX prog (mLoad 26 (.pointer (some ⟨b,0+1,none⟩))) w PK K=K (obV d.trailer vk vc) w:=
 l_at (ho.subAgg j hi (0+1) (obC d.trailer vk vc) rfl aggOb)
theorem dc_trk (ho:OwnS S w0 w L)(j:Nat){b:Nat}{d:Dc}{vi vk vc:Value}(hi:L[j]?=some (dcE b d vi vk vc)):DoX prog (mLoad 3 (.pointer (some ⟨b,0+1,none⟩))) w PK K=K (.int .i64 d.trailer.k) w:=l_cell nInt5 (ho.cell j hi 1 rfl)
theorem dc_trkeys (ho:OwnS S w0 w L)(j:Nat){b:Nat}{d:Dc}{vi vk vc:Value}(hi:L[j]?=some (dcE b d vi vk vc)):DoX prog (mLoad 23 (.pointer (some ⟨b,0+1+4,none⟩))) w PK K=K vk w:=l_cell nSlS5 (ho.cell j hi 5 rfl)
theorem dc_v (ho:OwnS S w0 w L)(j:Nat){b:Nat}{d:Dc}{vi vk vc:Value}(hi:L[j]?=some (dcE b d vi vk vc)):DoX prog (mLoad 28 (.pointer (some ⟨b,0,none⟩))) w PK K=K (dcV d vi vk vc) w:=l_at (ho.agg j hi aggDc)
theorem m_dc0:DoX prog (mBuild 28 #[]) w PK K=K (dcV Dk.dc0 nilS nilS nilS) w:=do_eq (by kernel_rfl)
theorem fld_k {o:Ob}{vk vc:Value}:DoX prog (mFld 26 (obV o vk vc) 0) w PK K=K (.int .i64 o.k) w:=do_eq (by kernel_rfl)
end
theorem dc0_at (M:Mem):DocAt M.A M.w Dk.dc0 nilS nilS nilS []:=⟨SlA.nil _ _ _ _,.nil,ob0_ov M⟩
theorem item_at {M:Mem}{vi:Value}{l:List It}{cs:List Value}(hs:SlA M.A M.w vi 8 l.length cs)(hall:IVs M.A M.w cs l){i:Nat}(hi:i < l.length) :
  ∃(vk vc:Value) (b off:Nat),OV M.A M.w (obV l[i].obj vk vc) l[i].obj∧∀W,M.has W→(mIA 22 vi (.int .i64 (i:Int))).run prog W=.ok (.value (.pointer (some ⟨b,off,none⟩))) W∧∀j u,(itC l[i] vk vc)[j]?=some u→W.cell? ⟨b,off+j,none⟩=some u:=by
 obtain⟨b,off,cap,rfl,_⟩:=sl_open hs.1 (by omega);obtain⟨a,⟨vk,vc,rfl,ho⟩,hget⟩:=Rws.get itR_len i hi hall;refine⟨vk,vc,b,off+i*8,ho,fun W hW=>⟨?_,fun j u hj=>?_⟩⟩
 ·have:=run_ia (P:=prog) (T:=22) (b:=b) (off:=off) (cap:=cap) (n:=l.length) (k:=.i64) (i:=(i:Int)) (w:=W) Tryz.underlying22 szIt (by omega) (by omega);rw[Int.toNat_natCast] at this;exact this
 ·have:=Sl.cellAt (hs.now hW) (i*8+j) u (hget j u hj)
  rwa [←Nat.add_assoc] at this
theorem run_it {W:World}{b off:Nat}{i:It}{vk vc:Value}(h:∀j u,(itC i vk vc)[j]?=some u→W.cell? ⟨b,off+j,none⟩=some u):(mLoad 53 (.pointer (some ⟨b,off,none⟩))).run prog W=.ok (.value (itV i vk vc)) W:=
 run_load_at (AtV.agg aggIt (cs:=itC i vk vc) rfl h)
end
section
open Eng
def S_docs_kind (t0:Value)(w:World)(K:Ending→World→Prop):Prop:=
 DoX prog (mBox 26 t0) w (pk K) fun t1 w=>
 DoX prog (mLoad 26 t1) w (pk K) fun t6 w=>
 CallX prog 85 #[t6,(.string ⟨#[84,121,112,101]⟩)] w (pk K) fun t7 w=>
 DoX prog (mExt t7 0) w (pk K) fun t8 w=>
 DoX prog (mExt t7 1) w (pk K) fun t9 w=>
 DoX prog (mAlloc 26) w (pk K) fun t3 w=>
 DoX prog (mStore 26 t3 t8) w (pk K) fun _ w=>
 DoX prog (mFA 26 t3 0) w (pk K) fun t10 w=>
 DoX prog (mLoad 3 t10) w (pk K) fun t11 w=>
 DoX prog (mEq .neq 3 (.tmp 11) (.const (.int .i64 5)) t11 (.int .i64 5)) w (pk K) fun t12 w=>
 IfX t12 (K (.returned (.string ⟨#[]⟩)) w) (DoX prog (mFA 26 t3 3) w (pk K) fun t13 w=>
 DoX prog (mLoad 9 t13) w (pk K) fun t14 w=>
 K (.returned t14) w)
theorem S_docs_kind_eq (t0:Value)(w:World)(K:Ending→World→Prop):wpX prog 15 [] [] none (bodyOf Tryz.f165) (topQ prog [.tmp 2] K) (startX [t0]) [] w=S_docs_kind t0 w K:=by kernel_rfl
theorem S_docs_kind_ok {t0:Value}{w:World}{K:Ending→World→Prop}(h:S_docs_kind t0 w K):Calls prog 165 #[t0] w K:=
 calls_of_wpX Tryz.func165 rfl rfl rfl rfl (Eq.mpr (S_docs_kind_eq t0 w K) h)
def S_docs_holds (t0:Value)(w:World)(K:Ending→World→Prop):Prop:=
 DoX prog (mBox 26 t0) w (pk K) fun t1 w=>
 DoX prog (mFA 26 t1 0) w (pk K) fun t3 w=>
 DoX prog (mLoad 3 t3) w (pk K) fun t4 w=>
 DoX prog (mEq .eql 3 (.tmp 4) (.const (.int .i64 9)) t4 (.int .i64 9)) w (pk K) fun t5 w=>
 GDo t5 true (fun E=>DoX prog (mLoad 26 t1) w (pk K) E) w fun t7 w=>
 GDo t5 true (fun E=>CallX prog 165 #[t7] w (pk K) E) w fun t8 w=>
 GDo t5 true (fun E=>DoX prog (mEq .eql 9 (.tmp 8) (.const (.string ⟨#[79,98,106,83,116,109]⟩)) t8 (.string ⟨#[79,98,106,83,116,109]⟩)) w (pk K) E) w fun t9 w=>
 GDo t5 true (fun E=>E t9 w) w fun t10 w=>
 GDo t10 false (fun E=>DoX prog (mLoad 26 t1) w (pk K) E) w fun t11 w=>
 GDo t10 false (fun E=>CallX prog 165 #[t11] w (pk K) E) w fun t12 w=>
 GDo t10 false (fun E=>DoX prog (mEq .eql 9 (.tmp 12) (.const (.string ⟨#[88,82,101,102]⟩)) t12 (.string ⟨#[88,82,101,102]⟩)) w (pk K) E) w fun t13 w=>
 GDo t5 true (fun E=>DoX prog (mPick t10 (.bool true) t13) w (pk K) E) w fun t14 w=>
 DoX prog (mPick t5 t14 (.bool false)) w (pk K) fun t15 w=>
 K (.returned t15) w
theorem S_docs_holds_eq (t0:Value)(w:World)(K:Ending→World→Prop):wpX prog 16 [] [] none (bodyOf Tryz.f140) (topQ prog [.tmp 2] K) (startX [t0]) [] w=S_docs_holds t0 w K:=by kernel_rfl
theorem S_docs_holds_ok {t0:Value}{w:World}{K:Ending→World→Prop}(h:S_docs_holds t0 w K):Calls prog 140 #[t0] w K:=
 calls_of_wpX Tryz.func140 rfl rfl rfl rfl (Eq.mpr (S_docs_holds_eq t0 w K) h)
def S_docs_numbers (t0:Value)(w:World)(K:Ending→World→Prop):Prop:=
 DoX prog (mBox 53 t0) w (pk K) fun t1 w=>
 DoX prog (mFA 53 t1 0) w (pk K) fun t3 w=>
 DoX prog (mLoad 3 t3) w (pk K) fun t4 w=>
 DoX prog (mBin .geq 3 t4 (.int .i64 1)) w (pk K) fun t5 w=>
 GDo t5 true (fun E=>DoX prog (mFA 53 t1 0) w (pk K) E) w fun t7 w=>
 GDo t5 true (fun E=>DoX prog (mLoad 3 t7) w (pk K) E) w fun t8 w=>
 GDo t5 true (fun E=>DoX prog (mBin .leq 3 t8 (.int .i64 8191)) w (pk K) E) w fun t9 w=>
 DoX prog (mPick t5 t9 (.bool false)) w (pk K) fun t10 w=>
 GDo t10 true (fun E=>DoX prog (mFA 53 t1 1) w (pk K) E) w fun t12 w=>
 GDo t10 true (fun E=>DoX prog (mLoad 3 t12) w (pk K) E) w fun t13 w=>
 GDo t10 true (fun E=>DoX prog (mBin .geq 3 t13 (.int .i64 0)) w (pk K) E) w fun t14 w=>
 DoX prog (mPick t10 t14 (.bool false)) w (pk K) fun t15 w=>
 GDo t15 true (fun E=>DoX prog (mFA 53 t1 1) w (pk K) E) w fun t17 w=>
 GDo t15 true (fun E=>DoX prog (mLoad 3 t17) w (pk K) E) w fun t18 w=>
 GDo t15 true (fun E=>DoX prog (mBin .leq 3 t18 (.int .i64 65535)) w (pk K) E) w fun t19 w=>
 DoX prog (mPick t15 t19 (.bool false)) w (pk K) fun t20 w=>
 K (.returned t20) w
theorem S_docs_numbers_eq (t0:Value)(w:World)(K:Ending→World→Prop):wpX prog 21 [] [] none (bodyOf Tryz.f115) (topQ prog [.tmp 2] K) (startX [t0]) [] w=S_docs_numbers t0 w K:=by kernel_rfl
theorem S_docs_numbers_ok {t0:Value}{w:World}{K:Ending→World→Prop}(h:S_docs_numbers t0 w K):Calls prog 115 #[t0] w K:=
 calls_of_wpX Tryz.func115 rfl rfl rfl rfl (Eq.mpr (S_docs_numbers_eq t0 w K) h)
def S_docs_content (t0:Value)(w:World)(K:Ending→World→Prop):Prop:=
 DoX prog (mBox 53 t0) w (pk K) fun t1 w=>
 DoX prog (mFA 53 t1 2) w (pk K) fun t4 w=>
 DoX prog (mLoad 26 t4) w (pk K) fun t5 w=>
 CallX prog 117 #[t5] w (pk K) fun t6 w=>
 DoX prog (mEq .neq 32 (.tmp 7) (.const (.int .i64 0)) t6 (.int .i64 0)) w (pk K) fun t8 w=>
 IfX t8 (K (.returned t6) w) (DoX prog (mFA 53 t1 2) w (pk K) fun t10 w=>
 DoX prog (mFA 26 t10 0) w (pk K) fun t11 w=>
 DoX prog (mLoad 3 t11) w (pk K) fun t12 w=>
 DoX prog (mEq .eql 3 (.tmp 12) (.const (.int .i64 8)) t12 (.int .i64 8)) w (pk K) fun t13 w=>
 GDo t13 false (fun E=>DoX prog (mFA 53 t1 2) w (pk K) E) w fun t15 w=>
 GDo t13 false (fun E=>DoX prog (mLoad 26 t15) w (pk K) E) w fun t16 w=>
 GDo t13 false (fun E=>CallX prog 140 #[t16] w (pk K) E) w fun t17 w=>
 DoX prog (mPick t13 (.bool true) t17) w (pk K) fun t18 w=>
 IfX t18 (K (.returned (.int .i64 10)) w) (K (.returned (.int .i64 0)) w))
theorem S_docs_content_eq (t0:Value)(w:World)(K:Ending→World→Prop):wpX prog 19 [] [] none (bodyOf Tryz.f116) (topQ prog [.tmp 2] K) (startX [t0]) [] w=S_docs_content t0 w K:=by kernel_rfl
theorem S_docs_content_ok {t0:Value}{w:World}{K:Ending→World→Prop}(h:S_docs_content t0 w K):Calls prog 116 #[t0] w K:=
 calls_of_wpX Tryz.func116 rfl rfl rfl rfl (Eq.mpr (S_docs_content_eq t0 w K) h)
def S_docs_items_0 (t0 t6 t7 t8:Value)(w:World)(N1:List Value→World→Prop)(K:Ending→World→Prop):Prop:=
 DoX prog (mBin .lss 3 t8 t7) w (pk K) fun t9 w=>
 IfX t9 (DoX prog (mIA 22 t6 t8) w (pk K) fun t11 w=>
 DoX prog (mLoad 53 t11) w (pk K) fun t12 w=>
 DoX prog (mAlloc 53) w (pk K) fun t4 w=>
 DoX prog (mStore 53 t4 t12) w (pk K) fun _ w=>
 DoX prog (mLoad 53 t4) w (pk K) fun t14 w=>
 CallX prog 115 #[t14] w (pk K) fun t15 w=>
 DoX prog (mUn .not t15) w (pk K) fun t16 w=>
 IfX t16 (K (.returned (.int .i64 2)) w) (QuietX w (fun C2=>
 QDo prog C2 (mBin .gtr 3 t8 (.int .i64 0)) fun t19=>
 GQ t19 true (fun E=>QDo prog C2 (mFA 53 t4 0) E) fun t21=>
 GQ t19 true (fun E=>QDo prog C2 (mLoad 3 t21) E) fun t22=>
 GQ t19 true (fun E=>E t0) fun t23=>
 GQ t19 true (fun E=>E t8) fun t24=>
 GQ t19 true (fun E=>QDo prog C2 (mBin .sub 3 t24 (.int .i64 1)) E) fun t25=>
 GQ t19 true (fun E=>QDo prog C2 (mIA 22 t23 t25) E) fun t26=>
 GQ t19 true (fun E=>QDo prog C2 (mFA 53 t26 0) E) fun t27=>
 GQ t19 true (fun E=>QDo prog C2 (mLoad 3 t27) E) fun t28=>
 GQ t19 true (fun E=>QDo prog C2 (mBin .leq 3 t22 t28) E) fun t29=>
 QDo prog C2 (mPick t19 t29 (.bool false)) fun t30=>
 ∀w,C2 w →
 IfX t30 (K (.returned (.int .i64 9)) w) (DoX prog (mLoad 53 t4) w (pk K) fun t31 w=>
 CallX prog 116 #[t31] w (pk K) fun t32 w=>
 DoX prog (mEq .neq 32 (.tmp 33) (.const (.int .i64 0)) t32 (.int .i64 0)) w (pk K) fun t34 w=>
 IfX t34 (K (.returned t32) w) (DoX prog (mBin .add 3 t8 (.int .i64 1)) w (pk K) fun t36 w=>
 N1 [t36] w))))) (K (.returned (.int .i64 0)) w)
def S_docs_items (t0:Value)(w:World)(K:Ending→World→Prop):Prop:=
 DoX prog (mB .len #[22] 3 #[false] #[t0]) w (pk K) fun t7 w=>
 LoopX [(.int .i64 0)] w (fun vs1 w N1=>∀_:Sg,S_docs_items_0 t0 t0 t7 (vs1.getD 0 undef) w N1 K)
theorem S_docs_items_eq (t0:Value)(w:World)(K:Ending→World→Prop):wpX prog 37 [] [(2,[8])] none (bodyOf Tryz.f89) (topQ prog [.tmp 2] K) (startX [t0]) [] w=S_docs_items t0 w K:=by kernel_rfl
theorem S_docs_items_ok {t0:Value}{w:World}{K:Ending→World→Prop}(h:S_docs_items t0 w K):Calls prog 89 #[t0] w K:=
 calls_of_wpX Tryz.func89 rfl rfl rfl rfl (Eq.mpr (S_docs_items_eq t0 w K) h)
def S_docs_trail_0 (t1 t20 t21 t22:Value)(w:World)(N1:List Value→World→Prop)(K:Ending→World→Prop):Prop:=
 DoX prog (mBin .lss 3 t22 t21) w (pk K) fun t23 w=>
 IfX t23 (DoX prog (mIA 23 t20 t22) w (pk K) fun t24 w=>
 DoX prog (mLoad 9 t24) w (pk K) fun t25 w=>
 CallX prog 119 #[] w (pk K) fun t26 w=>
 CallX prog 118 #[t26,t25] w (pk K) fun t28 w=>
 DoX prog (mUn .not t28) w (pk K) fun t29 w=>
 IfX t29 (K (.returned (.int .i64 3)) w) (DoX prog (mBin .add 3 t22 (.int .i64 1)) w (pk K) fun t30 w=>
 N1 [t30] w)) (DoX prog (mFA 28 t1 1) w (pk K) fun t32 w=>
 DoX prog (mLoad 26 t32) w (pk K) fun t33 w=>
 CallX prog 85 #[t33,(.string ⟨#[82,111,111,116]⟩)] w (pk K) fun t34 w=>
 DoX prog (mExt t34 0) w (pk K) fun t35 w=>
 DoX prog (mExt t34 1) w (pk K) fun t36 w=>
 DoX prog (mAlloc 26) w (pk K) fun t6 w=>
 DoX prog (mStore 26 t6 t35) w (pk K) fun _ w=>
 DoX prog (mFA 26 t6 0) w (pk K) fun t37 w=>
 DoX prog (mLoad 3 t37) w (pk K) fun t38 w=>
 DoX prog (mEq .neq 3 (.tmp 38) (.const (.int .i64 8)) t38 (.int .i64 8)) w (pk K) fun t39 w=>
 GDo t39 false (fun E=>DoX prog (mLoad 28 t1) w (pk K) E) w fun t41 w=>
 GDo t39 false (fun E=>DoX prog (mLoad 26 t6) w (pk K) E) w fun t42 w=>
 GDo t39 false (fun E=>CallX prog 39 #[t41,t42] w (pk K) E) w fun t43 w=>
 GDo t39 false (fun E=>DoX prog (mFld 26 t43 0) w (pk K) E) w fun t44 w=>
 GDo t39 false (fun E=>DoX prog (mEq .neq 3 (.tmp 44) (.const (.int .i64 7)) t44 (.int .i64 7)) w (pk K) E) w fun t45 w=>
 DoX prog (mPick t39 (.bool true) t45) w (pk K) fun t46 w=>
 IfX t46 (K (.returned (.int .i64 22)) w) (K (.returned (.int .i64 0)) w))
def S_docs_trail (t0:Value)(w:World)(K:Ending→World→Prop):Prop:=
 DoX prog (mBox 28 t0) w (pk K) fun t1 w=>
 DoX prog (mFA 28 t1 1) w (pk K) fun t8 w=>
 DoX prog (mLoad 26 t8) w (pk K) fun t9 w=>
 CallX prog 117 #[t9] w (pk K) fun t10 w=>
 DoX prog (mEq .neq 32 (.tmp 11) (.const (.int .i64 0)) t10 (.int .i64 0)) w (pk K) fun t12 w=>
 IfX t12 (K (.returned t10) w) (DoX prog (mFA 28 t1 1) w (pk K) fun t14 w=>
 DoX prog (mFA 26 t14 0) w (pk K) fun t15 w=>
 DoX prog (mLoad 3 t15) w (pk K) fun t16 w=>
 DoX prog (mEq .neq 3 (.tmp 16) (.const (.int .i64 7)) t16 (.int .i64 7)) w (pk K) fun t17 w=>
 IfX t17 (K (.returned (.int .i64 10)) w) (DoX prog (mFA 28 t1 1) w (pk K) fun t18 w=>
 DoX prog (mFA 26 t18 4) w (pk K) fun t19 w=>
 DoX prog (mLoad 23 t19) w (pk K) fun t20 w=>
 DoX prog (mB .len #[23] 3 #[false] #[t20]) w (pk K) fun t21 w=>
 LoopX [(.int .i64 0)] w (fun vs1 w N1=>∀_:Sg,S_docs_trail_0 t1 t20 t21 (vs1.getD 0 undef) w N1 K)))
theorem S_docs_trail_eq (t0:Value)(w:World)(K:Ending→World→Prop):wpX prog 47 [] [(7,[22])] none (bodyOf Tryz.f90) (topQ prog [.tmp 2] K) (startX [t0]) [] w=S_docs_trail t0 w K:=by kernel_rfl
theorem S_docs_trail_ok {t0:Value}{w:World}{K:Ending→World→Prop}(h:S_docs_trail t0 w K):Calls prog 90 #[t0] w K:=
 calls_of_wpX Tryz.func90 rfl rfl rfl rfl (Eq.mpr (S_docs_trail_eq t0 w K) h)
def S_docs_known (w:World)(K:Ending→World→Prop):Prop:=
 DoX prog (mBuildS 23 3 #[(0,(.string ⟨#[73,68]⟩)),(1,(.string ⟨#[73,110,102,111]⟩)),(2,(.string ⟨#[82,111,111,116]⟩))]) w (pk K) fun t1 w=>
 K (.returned t1) w
theorem S_docs_known_eq (w:World)(K:Ending→World→Prop):wpX prog 2 [] [] none (bodyOf Tryz.f119) (topQ prog [.tmp 0] K) (startX []) [] w=S_docs_known w K:=by kernel_rfl
theorem S_docs_known_ok {w:World}{K:Ending→World→Prop}(h:S_docs_known w K):Calls prog 119 #[] w K:=
 calls_of_wpX Tryz.func119 rfl rfl rfl rfl (Eq.mpr (S_docs_known_eq w K) h)
def S_docs_Check (t0:Value)(w:World)(K:Ending→World→Prop):Prop:=
 DoX prog (mBox 28 t0) w (pk K) fun t1 w=>
 DoX prog (mFA 28 t1 0) w (pk K) fun t4 w=>
 DoX prog (mLoad 22 t4) w (pk K) fun t5 w=>
 CallX prog 89 #[t5] w (pk K) fun t6 w=>
 DoX prog (mEq .neq 32 (.tmp 7) (.const (.int .i64 0)) t6 (.int .i64 0)) w (pk K) fun t8 w=>
 IfX t8 (K (.returned t6) w) (DoX prog (mLoad 28 t1) w (pk K) fun t10 w=>
 CallX prog 90 #[t10] w (pk K) fun t11 w=>
 K (.returned t11) w)
theorem S_docs_Check_eq (t0:Value)(w:World)(K:Ending→World→Prop):wpX prog 12 [] [] none (bodyOf Tryz.f64) (topQ prog [.tmp 2] K) (startX [t0]) [] w=S_docs_Check t0 w K:=by kernel_rfl
theorem S_docs_Check_ok {t0:Value}{w:World}{K:Ending→World→Prop}(h:S_docs_Check t0 w K):Calls prog 64 #[t0] w K:=
 calls_of_wpX Tryz.func64 rfl rfl rfl rfl (Eq.mpr (S_docs_Check_eq t0 w K) h)
def S_docs_Follow (t0 t1:Value)(w:World)(K:Ending→World→Prop):Prop:=
 DoX prog (mBox 28 t0) w (pk K) fun t2 w=>
 DoX prog (mBox 26 t1) w (pk K) fun t3 w=>
 DoX prog (mAlloc 26) w (pk K) fun t4 w=>
 DoX prog (mFA 26 t3 0) w (pk K) fun t6 w=>
 DoX prog (mLoad 3 t6) w (pk K) fun t7 w=>
 DoX prog (mEq .neq 3 (.tmp 7) (.const (.int .i64 8)) t7 (.int .i64 8)) w (pk K) fun t8 w=>
 IfX t8 (DoX prog (mLoad 26 t3) w (pk K) fun t9 w=>
 CallX prog 72 #[t9] w (pk K) fun t10 w=>
 DoX prog (mStore 26 t4 t10) w (pk K) fun _ w=>
 RetX prog [.cell t4 26] w K) (DoX prog (mFA 28 t2 0) w (pk K) fun t11 w=>
 DoX prog (mLoad 22 t11) w (pk K) fun t12 w=>
 DoX prog (mFunc (.func 74) #[] #[t3]) w (pk K) fun t13 w=>
 CallX prog 73 #[t12,t13] w (pk K) fun t14 w=>
 QuietX w (fun C1=>
 QDo prog C1 (mBin .lss 3 t14 (.int .i64 0)) fun t16=>
 GQ t16 false (fun E=>QDo prog C1 (mFA 28 t2 0) E) fun t18=>
 GQ t16 false (fun E=>QDo prog C1 (mLoad 22 t18) E) fun t19=>
 GQ t16 false (fun E=>E t14) fun t20=>
 GQ t16 false (fun E=>QDo prog C1 (mIA 22 t19 t20) E) fun t21=>
 GQ t16 false (fun E=>QDo prog C1 (mFA 53 t21 1) E) fun t22=>
 GQ t16 false (fun E=>QDo prog C1 (mLoad 3 t22) E) fun t23=>
 GQ t16 false (fun E=>QDo prog C1 (mFA 26 t3 2) E) fun t24=>
 GQ t16 false (fun E=>QDo prog C1 (mLoad 3 t24) E) fun t25=>
 GQ t16 false (fun E=>QDo prog C1 (mEq .neq 3 (.tmp 23) (.tmp 25) t23 t25) E) fun t26=>
 QDo prog C1 (mPick t16 (.bool true) t26) fun t27=>
 ∀w,C1 w →
 IfX t27 (DoX prog (mBuild 26 #[]) w (pk K) fun t28 w=>
 DoX prog (mStore 26 t4 t28) w (pk K) fun _ w=>
 RetX prog [.cell t4 26] w K) (DoX prog (mFA 28 t2 0) w (pk K) fun t29 w=>
 DoX prog (mLoad 22 t29) w (pk K) fun t30 w=>
 DoX prog (mIA 22 t30 t14) w (pk K) fun t32 w=>
 DoX prog (mFA 53 t32 2) w (pk K) fun t33 w=>
 DoX prog (mLoad 26 t33) w (pk K) fun t34 w=>
 CallX prog 72 #[t34] w (pk K) fun t35 w=>
 DoX prog (mStore 26 t4 t35) w (pk K) fun _ w=>
 RetX prog [.cell t4 26] w K)))
theorem S_docs_Follow_eq (t0 t1:Value)(w:World)(K:Ending→World→Prop):wpX prog 36 [] [] none (bodyOf Tryz.f39) (topQ prog [.cell 4 26] K) (startX [t0,t1]) [] w=S_docs_Follow t0 t1 w K:=by kernel_rfl
theorem S_docs_Follow_ok {t0 t1:Value}{w:World}{K:Ending→World→Prop}(h:S_docs_Follow t0 t1 w K):Calls prog 39 #[t0,t1] w K:=
 calls_of_wpX Tryz.func39 rfl rfl rfl rfl (Eq.mpr (S_docs_Follow_eq t0 t1 w K) h)
def S_docs_Follow_1 (t0 t1:Value)(w:World)(K:Ending→World→Prop):Prop:=
 DoX prog (mBox 53 t0) w (pk K) fun t2 w=>
 DoX prog (mFA 53 t2 0) w (pk K) fun t4 w=>
 DoX prog (mLoad 3 t4) w (pk K) fun t5 w=>
 DoX prog (mFA 26 t1 1) w (pk K) fun t6 w=>
 DoX prog (mLoad 2 t6) w (pk K) fun t7 w=>
 DoX prog (mEq .eql 2 (.tmp 5) (.tmp 7) t5 t7) w (pk K) fun t8 w=>
 K (.returned t8) w
theorem S_docs_Follow_1_eq (t0 t1:Value)(w:World)(K:Ending→World→Prop):wpX prog 9 [] [] none (bodyOf Tryz.f74) (topQ prog [.tmp 3] K) (startX [t0,t1]) [] w=S_docs_Follow_1 t0 t1 w K:=by kernel_rfl
theorem S_docs_Follow_1_ok {t0 t1:Value}{w:World}{K:Ending→World→Prop}(h:S_docs_Follow_1 t0 t1 w K):Calls prog 74 #[t0,t1] w K:=
 calls_of_wpX Tryz.func74 rfl rfl rfl rfl (Eq.mpr (S_docs_Follow_1_eq t0 t1 w K) h)
def S_docs_Path_0 (t3 t4 t6 t14 t15 t16:Value)(w:World)(N1:List Value→World→Prop)(K:Ending→World→Prop):Prop:=
 DoX prog (mBin .lss 3 t16 t15) w (pk K) fun t17 w=>
 IfX t17 (DoX prog (mIA 23 t14 t16) w (pk K) fun t18 w=>
 DoX prog (mLoad 9 t18) w (pk K) fun t19 w=>
 DoX prog (mLoad 26 t4) w (pk K) fun t21 w=>
 CallX prog 85 #[t21,t19] w (pk K) fun t23 w=>
 DoX prog (mExt t23 0) w (pk K) fun t24 w=>
 DoX prog (mExt t23 1) w (pk K) fun t25 w=>
 DoX prog (mAlloc 26) w (pk K) fun t9 w=>
 DoX prog (mStore 26 t9 t24) w (pk K) fun _ w=>
 DoX prog (mUn .not t25) w (pk K) fun t27 w=>
 IfX t27 (DoX prog (mBuild 26 #[]) w (pk K) fun t28 w=>
 DoX prog (mStore 26 t6 t28) w (pk K) fun _ w=>
 RetX prog [.cell t6 26] w K) (DoX prog (mLoad 28 t3) w (pk K) fun t29 w=>
 DoX prog (mLoad 26 t9) w (pk K) fun t30 w=>
 CallX prog 39 #[t29,t30] w (pk K) fun t31 w=>
 DoX prog (mStore 26 t4 t31) w (pk K) fun _ w=>
 DoX prog (mBin .add 3 t16 (.int .i64 1)) w (pk K) fun t32 w=>
 N1 [t32] w)) (DoX prog (mLoad 26 t4) w (pk K) fun t33 w=>
 DoX prog (mStore 26 t6 t33) w (pk K) fun _ w=>
 RetX prog [.cell t6 26] w K)
def S_docs_Path (t0 t1 t2:Value)(w:World)(K:Ending→World→Prop):Prop:=
 DoX prog (mBox 28 t0) w (pk K) fun t3 w=>
 DoX prog (mBox 26 t1) w (pk K) fun t4 w=>
 DoX prog (mAlloc 26) w (pk K) fun t6 w=>
 DoX prog (mLoad 28 t3) w (pk K) fun t11 w=>
 DoX prog (mLoad 26 t4) w (pk K) fun t12 w=>
 CallX prog 39 #[t11,t12] w (pk K) fun t13 w=>
 DoX prog (mStore 26 t4 t13) w (pk K) fun _ w=>
 DoX prog (mB .len #[23] 3 #[false] #[t2]) w (pk K) fun t15 w=>
 LoopX [(.int .i64 0)] w (fun vs1 w N1=>∀_:Sg,S_docs_Path_0 t3 t4 t6 t2 t15 (vs1.getD 0 undef) w N1 K)
theorem S_docs_Path_eq (t0 t1 t2:Value)(w:World)(K:Ending→World→Prop):wpX prog 34 [] [(3,[16])] none (bodyOf Tryz.f58) (topQ prog [.cell 6 26] K) (startX [t0,t1,t2]) [] w=S_docs_Path t0 t1 t2 w K:=by kernel_rfl
theorem S_docs_Path_ok {t0 t1 t2:Value}{w:World}{K:Ending→World→Prop}(h:S_docs_Path t0 t1 t2 w K):Calls prog 58 #[t0,t1,t2] w K:=
 calls_of_wpX Tryz.func58 rfl rfl rfl rfl (Eq.mpr (S_docs_Path_eq t0 t1 t2 w K) h)
end
section
open Eng
def S_foliantref19_obj (t0:Value)(w:World)(K:Ending→World→Prop):Prop:=
 DoX prog (mBox 53 t0) w (pk K) fun t1 w=>
 DoX prog (mFA 53 t1 2) w (pk K) fun t4 w=>
 DoX prog (mLoad 26 t4) w (pk K) fun t5 w=>
 CallX prog 45 #[t5] w (pk K) fun t6 w=>
 DoX prog (mEq .neq 32 (.tmp 7) (.const (.int .i64 0)) t6 (.int .i64 0)) w (pk K) fun t8 w=>
 IfX t8 (K (.returned t6) w) (DoX prog (mFA 53 t1 2) w (pk K) fun t10 w=>
 DoX prog (mFA 26 t10 0) w (pk K) fun t11 w=>
 DoX prog (mLoad 3 t11) w (pk K) fun t12 w=>
 DoX prog (mEq .eql 3 (.tmp 12) (.const (.int .i64 8)) t12 (.int .i64 8)) w (pk K) fun t13 w=>
 GDo t13 false (fun E=>DoX prog (mFA 53 t1 2) w (pk K) E) w fun t15 w=>
 GDo t13 false (fun E=>DoX prog (mLoad 26 t15) w (pk K) E) w fun t16 w=>
 GDo t13 false (fun E=>CallX prog 104 #[t16] w (pk K) E) w fun t17 w=>
 DoX prog (mPick t13 (.bool true) t17) w (pk K) fun t18 w=>
 IfX t18 (K (.returned (.int .i64 10)) w) (K (.returned (.int .i64 0)) w))
theorem S_foliantref19_obj_eq (t0:Value)(w:World)(K:Ending→World→Prop):wpX prog 19 [] [] none (bodyOf Tryz.f82) (topQ prog [.tmp 2] K) (startX [t0]) [] w=S_foliantref19_obj t0 w K:=by kernel_rfl
theorem S_foliantref19_obj_ok {t0:Value}{w:World}{K:Ending→World→Prop}(h:S_foliantref19_obj t0 w K):Calls prog 82 #[t0] w K:=
 calls_of_wpX Tryz.func82 rfl rfl rfl rfl (Eq.mpr (S_foliantref19_obj_eq t0 w K) h)
def S_foliantref19_Hold (t0:Value)(w:World)(K:Ending→World→Prop):Prop:=
 DoX prog (mBox 26 t0) w (pk K) fun t1 w=>
 DoX prog (mLoad 26 t1) w (pk K) fun t6 w=>
 CallX prog 95 #[t6,(.string ⟨#[84,121,112,101]⟩)] w (pk K) fun t7 w=>
 DoX prog (mExt t7 0) w (pk K) fun t8 w=>
 DoX prog (mExt t7 1) w (pk K) fun t9 w=>
 DoX prog (mAlloc 26) w (pk K) fun t3 w=>
 DoX prog (mStore 26 t3 t8) w (pk K) fun _ w=>
 DoX prog (mFA 26 t1 0) w (pk K) fun t10 w=>
 DoX prog (mLoad 3 t10) w (pk K) fun t11 w=>
 DoX prog (mEq .eql 3 (.tmp 11) (.const (.int .i64 9)) t11 (.int .i64 9)) w (pk K) fun t12 w=>
 GDo t12 true (fun E=>DoX prog (mFA 26 t3 0) w (pk K) E) w fun t14 w=>
 GDo t12 true (fun E=>DoX prog (mLoad 3 t14) w (pk K) E) w fun t15 w=>
 GDo t12 true (fun E=>DoX prog (mEq .eql 3 (.tmp 15) (.const (.int .i64 5)) t15 (.int .i64 5)) w (pk K) E) w fun t16 w=>
 DoX prog (mPick t12 t16 (.bool false)) w (pk K) fun t17 w=>
 GDo t17 true (fun E=>DoX prog (mFA 26 t3 3) w (pk K) E) w fun t19 w=>
 GDo t17 true (fun E=>DoX prog (mLoad 9 t19) w (pk K) E) w fun t20 w=>
 GDo t17 true (fun E=>DoX prog (mEq .eql 9 (.tmp 20) (.const (.string ⟨#[79,98,106,83,116,109]⟩)) t20 (.string ⟨#[79,98,106,83,116,109]⟩)) w (pk K) E) w fun t21 w=>
 GDo t17 true (fun E=>E t21 w) w fun t22 w=>
 GDo t22 false (fun E=>DoX prog (mFA 26 t3 3) w (pk K) E) w fun t23 w=>
 GDo t22 false (fun E=>DoX prog (mLoad 9 t23) w (pk K) E) w fun t24 w=>
 GDo t22 false (fun E=>DoX prog (mEq .eql 9 (.tmp 24) (.const (.string ⟨#[88,82,101,102]⟩)) t24 (.string ⟨#[88,82,101,102]⟩)) w (pk K) E) w fun t25 w=>
 GDo t17 true (fun E=>DoX prog (mPick t22 (.bool true) t25) w (pk K) E) w fun t26 w=>
 DoX prog (mPick t17 t26 (.bool false)) w (pk K) fun t27 w=>
 K (.returned t27) w
theorem S_foliantref19_Hold_eq (t0:Value)(w:World)(K:Ending→World→Prop):wpX prog 28 [] [] none (bodyOf Tryz.f104) (topQ prog [.tmp 2] K) (startX [t0]) [] w=S_foliantref19_Hold t0 w K:=by kernel_rfl
theorem S_foliantref19_Hold_ok {t0:Value}{w:World}{K:Ending→World→Prop}(h:S_foliantref19_Hold t0 w K):Calls prog 104 #[t0] w K:=
 calls_of_wpX Tryz.func104 rfl rfl rfl rfl (Eq.mpr (S_foliantref19_Hold_eq t0 w K) h)
def S_foliantref19_Items_0 (t0 t6 t7 t8:Value)(w:World)(N1:List Value→World→Prop)(K:Ending→World→Prop):Prop:=
 DoX prog (mBin .lss 3 t8 t7) w (pk K) fun t9 w=>
 IfX t9 (DoX prog (mIA 22 t6 t8) w (pk K) fun t11 w=>
 DoX prog (mLoad 53 t11) w (pk K) fun t12 w=>
 DoX prog (mAlloc 53) w (pk K) fun t4 w=>
 DoX prog (mStore 53 t4 t12) w (pk K) fun _ w=>
 DoX prog (mFA 53 t4 0) w (pk K) fun t13 w=>
 DoX prog (mLoad 3 t13) w (pk K) fun t14 w=>
 DoX prog (mBin .lss 3 t14 (.int .i64 1)) w (pk K) fun t15 w=>
 GDo t15 false (fun E=>DoX prog (mFA 53 t4 0) w (pk K) E) w fun t17 w=>
 GDo t15 false (fun E=>DoX prog (mLoad 3 t17) w (pk K) E) w fun t18 w=>
 GDo t15 false (fun E=>DoX prog (mBin .gtr 3 t18 (.int .i64 8191)) w (pk K) E) w fun t19 w=>
 DoX prog (mPick t15 (.bool true) t19) w (pk K) fun t20 w=>
 GDo t20 false (fun E=>DoX prog (mFA 53 t4 1) w (pk K) E) w fun t22 w=>
 GDo t20 false (fun E=>DoX prog (mLoad 3 t22) w (pk K) E) w fun t23 w=>
 GDo t20 false (fun E=>DoX prog (mBin .lss 3 t23 (.int .i64 0)) w (pk K) E) w fun t24 w=>
 DoX prog (mPick t20 (.bool true) t24) w (pk K) fun t25 w=>
 GDo t25 false (fun E=>DoX prog (mFA 53 t4 1) w (pk K) E) w fun t27 w=>
 GDo t25 false (fun E=>DoX prog (mLoad 3 t27) w (pk K) E) w fun t28 w=>
 GDo t25 false (fun E=>DoX prog (mBin .gtr 3 t28 (.int .i64 65535)) w (pk K) E) w fun t29 w=>
 DoX prog (mPick t25 (.bool true) t29) w (pk K) fun t30 w=>
 IfX t30 (K (.returned (.int .i64 2)) w) (QuietX w (fun C2=>
 QDo prog C2 (mBin .gtr 3 t8 (.int .i64 0)) fun t32=>
 GQ t32 true (fun E=>QDo prog C2 (mFA 53 t4 0) E) fun t34=>
 GQ t32 true (fun E=>QDo prog C2 (mLoad 3 t34) E) fun t35=>
 GQ t32 true (fun E=>E t0) fun t36=>
 GQ t32 true (fun E=>E t8) fun t37=>
 GQ t32 true (fun E=>QDo prog C2 (mBin .sub 3 t37 (.int .i64 1)) E) fun t38=>
 GQ t32 true (fun E=>QDo prog C2 (mIA 22 t36 t38) E) fun t39=>
 GQ t32 true (fun E=>QDo prog C2 (mFA 53 t39 0) E) fun t40=>
 GQ t32 true (fun E=>QDo prog C2 (mLoad 3 t40) E) fun t41=>
 GQ t32 true (fun E=>QDo prog C2 (mBin .leq 3 t35 t41) E) fun t42=>
 QDo prog C2 (mPick t32 t42 (.bool false)) fun t43=>
 ∀w,C2 w →
 IfX t43 (K (.returned (.int .i64 9)) w) (DoX prog (mLoad 53 t4) w (pk K) fun t44 w=>
 CallX prog 82 #[t44] w (pk K) fun t45 w=>
 DoX prog (mEq .neq 32 (.tmp 46) (.const (.int .i64 0)) t45 (.int .i64 0)) w (pk K) fun t47 w=>
 IfX t47 (K (.returned t45) w) (DoX prog (mBin .add 3 t8 (.int .i64 1)) w (pk K) fun t49 w=>
 N1 [t49] w))))) (K (.returned (.int .i64 0)) w)
def S_foliantref19_Items (t0:Value)(w:World)(K:Ending→World→Prop):Prop:=
 DoX prog (mB .len #[22] 3 #[false] #[t0]) w (pk K) fun t7 w=>
 LoopX [(.int .i64 0)] w (fun vs1 w N1=>∀_:Sg,S_foliantref19_Items_0 t0 t0 t7 (vs1.getD 0 undef) w N1 K)
theorem S_foliantref19_Items_eq (t0:Value)(w:World)(K:Ending→World→Prop):wpX prog 50 [] [(2,[8])] none (bodyOf Tryz.f80) (topQ prog [.tmp 2] K) (startX [t0]) [] w=S_foliantref19_Items t0 w K:=by kernel_rfl
theorem S_foliantref19_Items_ok {t0:Value}{w:World}{K:Ending→World→Prop}(h:S_foliantref19_Items t0 w K):Calls prog 80 #[t0] w K:=
 calls_of_wpX Tryz.func80 rfl rfl rfl rfl (Eq.mpr (S_foliantref19_Items_eq t0 w K) h)
def S_foliantref19_Follow_0 (t3 t4 t12 t13 t14:Value)(w:World)(N1:List Value→World→Prop)(K:Ending→World→Prop):Prop:=
 DoX prog (mBin .lss 3 t14 t13) w (pk K) fun t15 w=>
 IfX t15 (DoX prog (mIA 22 t12 t14) w (pk K) fun t16 w=>
 DoX prog (mLoad 53 t16) w (pk K) fun t17 w=>
 DoX prog (mAlloc 53) w (pk K) fun t6 w=>
 DoX prog (mStore 53 t6 t17) w (pk K) fun _ w=>
 DoX prog (mFA 53 t6 0) w (pk K) fun t18 w=>
 DoX prog (mLoad 3 t18) w (pk K) fun t19 w=>
 DoX prog (mFA 26 t3 1) w (pk K) fun t20 w=>
 DoX prog (mLoad 2 t20) w (pk K) fun t21 w=>
 DoX prog (mEq .eql 2 (.tmp 19) (.tmp 21) t19 t21) w (pk K) fun t22 w=>
 IfX t22 (DoX prog (mFA 53 t6 1) w (pk K) fun t23 w=>
 DoX prog (mLoad 3 t23) w (pk K) fun t24 w=>
 DoX prog (mFA 26 t3 2) w (pk K) fun t25 w=>
 DoX prog (mLoad 3 t25) w (pk K) fun t26 w=>
 DoX prog (mEq .neq 3 (.tmp 24) (.tmp 26) t24 t26) w (pk K) fun t27 w=>
 IfX t27 (DoX prog (mBuild 26 #[]) w (pk K) fun t28 w=>
 DoX prog (mStore 26 t4 t28) w (pk K) fun _ w=>
 RetX prog [.cell t4 26] w K) (DoX prog (mFA 53 t6 2) w (pk K) fun t29 w=>
 DoX prog (mLoad 26 t29) w (pk K) fun t30 w=>
 DoX prog (mStore 26 t4 t30) w (pk K) fun _ w=>
 RetX prog [.cell t4 26] w K)) (DoX prog (mBin .add 3 t14 (.int .i64 1)) w (pk K) fun t31 w=>
 N1 [t31] w)) (DoX prog (mBuild 26 #[]) w (pk K) fun t32 w=>
 DoX prog (mStore 26 t4 t32) w (pk K) fun _ w=>
 RetX prog [.cell t4 26] w K)
def S_foliantref19_Follow (t0 t1:Value)(w:World)(K:Ending→World→Prop):Prop:=
 DoX prog (mBox 28 t0) w (pk K) fun t2 w=>
 DoX prog (mBox 26 t1) w (pk K) fun t3 w=>
 DoX prog (mAlloc 26) w (pk K) fun t4 w=>
 DoX prog (mFA 26 t3 0) w (pk K) fun t7 w=>
 DoX prog (mLoad 3 t7) w (pk K) fun t8 w=>
 DoX prog (mEq .neq 3 (.tmp 8) (.const (.int .i64 8)) t8 (.int .i64 8)) w (pk K) fun t9 w=>
 IfX t9 (DoX prog (mLoad 26 t3) w (pk K) fun t10 w=>
 DoX prog (mStore 26 t4 t10) w (pk K) fun _ w=>
 RetX prog [.cell t4 26] w K) (DoX prog (mFA 28 t2 0) w (pk K) fun t11 w=>
 DoX prog (mLoad 22 t11) w (pk K) fun t12 w=>
 DoX prog (mB .len #[22] 3 #[false] #[t12]) w (pk K) fun t13 w=>
 LoopX [(.int .i64 0)] w (fun vs1 w N1=>∀_:Sg,S_foliantref19_Follow_0 t3 t4 t12 t13 (vs1.getD 0 undef) w N1 K))
theorem S_foliantref19_Follow_eq (t0 t1:Value)(w:World)(K:Ending→World→Prop):wpX prog 33 [] [(4,[14])] none (bodyOf Tryz.f41) (topQ prog [.cell 4 26] K) (startX [t0,t1]) [] w=S_foliantref19_Follow t0 t1 w K:=by kernel_rfl
theorem S_foliantref19_Follow_ok {t0 t1:Value}{w:World}{K:Ending→World→Prop}(h:S_foliantref19_Follow t0 t1 w K):Calls prog 41 #[t0,t1] w K:=
 calls_of_wpX Tryz.func41 rfl rfl rfl rfl (Eq.mpr (S_foliantref19_Follow_eq t0 t1 w K) h)
def S_foliantref19_Path_0 (t3 t4 t6 t14 t15 t16:Value)(w:World)(N1:List Value→World→Prop)(K:Ending→World→Prop):Prop:=
 DoX prog (mBin .lss 3 t16 t15) w (pk K) fun t17 w=>
 IfX t17 (DoX prog (mIA 23 t14 t16) w (pk K) fun t18 w=>
 DoX prog (mLoad 9 t18) w (pk K) fun t19 w=>
 DoX prog (mLoad 26 t4) w (pk K) fun t21 w=>
 CallX prog 95 #[t21,t19] w (pk K) fun t23 w=>
 DoX prog (mExt t23 0) w (pk K) fun t24 w=>
 DoX prog (mExt t23 1) w (pk K) fun t25 w=>
 DoX prog (mAlloc 26) w (pk K) fun t9 w=>
 DoX prog (mStore 26 t9 t24) w (pk K) fun _ w=>
 DoX prog (mUn .not t25) w (pk K) fun t27 w=>
 IfX t27 (DoX prog (mBuild 26 #[]) w (pk K) fun t28 w=>
 DoX prog (mStore 26 t6 t28) w (pk K) fun _ w=>
 RetX prog [.cell t6 26] w K) (DoX prog (mLoad 28 t3) w (pk K) fun t29 w=>
 DoX prog (mLoad 26 t9) w (pk K) fun t30 w=>
 CallX prog 41 #[t29,t30] w (pk K) fun t31 w=>
 DoX prog (mStore 26 t4 t31) w (pk K) fun _ w=>
 DoX prog (mBin .add 3 t16 (.int .i64 1)) w (pk K) fun t32 w=>
 N1 [t32] w)) (DoX prog (mLoad 26 t4) w (pk K) fun t33 w=>
 DoX prog (mStore 26 t6 t33) w (pk K) fun _ w=>
 RetX prog [.cell t6 26] w K)
def S_foliantref19_Path (t0 t1 t2:Value)(w:World)(K:Ending→World→Prop):Prop:=
 DoX prog (mBox 28 t0) w (pk K) fun t3 w=>
 DoX prog (mBox 26 t1) w (pk K) fun t4 w=>
 DoX prog (mAlloc 26) w (pk K) fun t6 w=>
 DoX prog (mLoad 28 t3) w (pk K) fun t11 w=>
 DoX prog (mLoad 26 t4) w (pk K) fun t12 w=>
 CallX prog 41 #[t11,t12] w (pk K) fun t13 w=>
 DoX prog (mStore 26 t4 t13) w (pk K) fun _ w=>
 DoX prog (mB .len #[23] 3 #[false] #[t2]) w (pk K) fun t15 w=>
 LoopX [(.int .i64 0)] w (fun vs1 w N1=>∀_:Sg,S_foliantref19_Path_0 t3 t4 t6 t2 t15 (vs1.getD 0 undef) w N1 K)
theorem S_foliantref19_Path_eq (t0 t1 t2:Value)(w:World)(K:Ending→World→Prop):wpX prog 34 [] [(3,[16])] none (bodyOf Tryz.f122) (topQ prog [.cell 6 26] K) (startX [t0,t1,t2]) [] w=S_foliantref19_Path t0 t1 t2 w K:=by kernel_rfl
theorem S_foliantref19_Path_ok {t0 t1 t2:Value}{w:World}{K:Ending→World→Prop}(h:S_foliantref19_Path t0 t1 t2 w K):Calls prog 122 #[t0,t1,t2] w K:=
 calls_of_wpX Tryz.func122 rfl rfl rfl rfl (Eq.mpr (S_foliantref19_Path_eq t0 t1 t2 w K) h)
def S_foliantref19_trail_0 (t1 t3 t20 t21 t22:Value)(w:World)(N1:List Value→World→Prop)(K:Ending→World→Prop):Prop:=
 DoX prog (mBin .lss 3 t22 t21) w (pk K) fun t23 w=>
 IfX t23 (DoX prog (mIA 23 t20 t22) w (pk K) fun t24 w=>
 DoX prog (mLoad 9 t24) w (pk K) fun t25 w=>
 DoX prog (mEq .neq 9 (.tmp 26) (.const (.string ⟨#[73,68]⟩)) t25 (.string ⟨#[73,68]⟩)) w (pk K) fun t27 w=>
 GDo t27 true (fun E=>E t25 w) w fun t29 w=>
 GDo t27 true (fun E=>DoX prog (mEq .neq 9 (.tmp 29) (.const (.string ⟨#[73,110,102,111]⟩)) t29 (.string ⟨#[73,110,102,111]⟩)) w (pk K) E) w fun t30 w=>
 DoX prog (mPick t27 t30 (.bool false)) w (pk K) fun t31 w=>
 GDo t31 true (fun E=>E t25 w) w fun t33 w=>
 GDo t31 true (fun E=>DoX prog (mEq .neq 9 (.tmp 33) (.const (.string ⟨#[82,111,111,116]⟩)) t33 (.string ⟨#[82,111,111,116]⟩)) w (pk K) E) w fun t34 w=>
 DoX prog (mPick t31 t34 (.bool false)) w (pk K) fun t35 w=>
 IfX t35 (K (.returned (.int .i64 3)) w) (DoX prog (mBin .add 3 t22 (.int .i64 1)) w (pk K) fun t36 w=>
 N1 [t36] w)) (DoX prog (mLoad 26 t3) w (pk K) fun t38 w=>
 CallX prog 95 #[t38,(.string ⟨#[82,111,111,116]⟩)] w (pk K) fun t39 w=>
 DoX prog (mExt t39 0) w (pk K) fun t40 w=>
 DoX prog (mExt t39 1) w (pk K) fun t41 w=>
 DoX prog (mAlloc 26) w (pk K) fun t7 w=>
 DoX prog (mStore 26 t7 t40) w (pk K) fun _ w=>
 DoX prog (mFA 26 t7 0) w (pk K) fun t42 w=>
 DoX prog (mLoad 3 t42) w (pk K) fun t43 w=>
 DoX prog (mEq .neq 3 (.tmp 43) (.const (.int .i64 8)) t43 (.int .i64 8)) w (pk K) fun t44 w=>
 GDo t44 false (fun E=>DoX prog (mLoad 28 t1) w (pk K) E) w fun t46 w=>
 GDo t44 false (fun E=>DoX prog (mLoad 26 t7) w (pk K) E) w fun t47 w=>
 GDo t44 false (fun E=>CallX prog 41 #[t46,t47] w (pk K) E) w fun t48 w=>
 GDo t44 false (fun E=>DoX prog (mFld 26 t48 0) w (pk K) E) w fun t49 w=>
 GDo t44 false (fun E=>DoX prog (mEq .neq 3 (.tmp 49) (.const (.int .i64 7)) t49 (.int .i64 7)) w (pk K) E) w fun t50 w=>
 DoX prog (mPick t44 (.bool true) t50) w (pk K) fun t51 w=>
 IfX t51 (K (.returned (.int .i64 22)) w) (K (.returned (.int .i64 0)) w))
def S_foliantref19_trail (t0:Value)(w:World)(K:Ending→World→Prop):Prop:=
 DoX prog (mBox 28 t0) w (pk K) fun t1 w=>
 DoX prog (mFA 28 t1 1) w (pk K) fun t9 w=>
 DoX prog (mLoad 26 t9) w (pk K) fun t10 w=>
 DoX prog (mAlloc 26) w (pk K) fun t3 w=>
 DoX prog (mStore 26 t3 t10) w (pk K) fun _ w=>
 DoX prog (mLoad 26 t3) w (pk K) fun t11 w=>
 CallX prog 45 #[t11] w (pk K) fun t12 w=>
 DoX prog (mEq .neq 32 (.tmp 13) (.const (.int .i64 0)) t12 (.int .i64 0)) w (pk K) fun t14 w=>
 IfX t14 (K (.returned t12) w) (DoX prog (mFA 26 t3 0) w (pk K) fun t16 w=>
 DoX prog (mLoad 3 t16) w (pk K) fun t17 w=>
 DoX prog (mEq .neq 3 (.tmp 17) (.const (.int .i64 7)) t17 (.int .i64 7)) w (pk K) fun t18 w=>
 IfX t18 (K (.returned (.int .i64 10)) w) (DoX prog (mFA 26 t3 4) w (pk K) fun t19 w=>
 DoX prog (mLoad 23 t19) w (pk K) fun t20 w=>
 DoX prog (mB .len #[23] 3 #[false] #[t20]) w (pk K) fun t21 w=>
 LoopX [(.int .i64 0)] w (fun vs1 w N1=>∀_:Sg,S_foliantref19_trail_0 t1 t3 t20 t21 (vs1.getD 0 undef) w N1 K)))
theorem S_foliantref19_trail_eq (t0:Value)(w:World)(K:Ending→World→Prop):wpX prog 52 [] [(8,[22])] none (bodyOf Tryz.f81) (topQ prog [.tmp 2] K) (startX [t0]) [] w=S_foliantref19_trail t0 w K:=by kernel_rfl
theorem S_foliantref19_trail_ok {t0:Value}{w:World}{K:Ending→World→Prop}(h:S_foliantref19_trail t0 w K):Calls prog 81 #[t0] w K:=
 calls_of_wpX Tryz.func81 rfl rfl rfl rfl (Eq.mpr (S_foliantref19_trail_eq t0 w K) h)
def S_foliantref19_Check (t0:Value)(w:World)(K:Ending→World→Prop):Prop:=
 DoX prog (mBox 28 t0) w (pk K) fun t1 w=>
 DoX prog (mFA 28 t1 0) w (pk K) fun t4 w=>
 DoX prog (mLoad 22 t4) w (pk K) fun t5 w=>
 CallX prog 80 #[t5] w (pk K) fun t6 w=>
 DoX prog (mEq .neq 32 (.tmp 7) (.const (.int .i64 0)) t6 (.int .i64 0)) w (pk K) fun t8 w=>
 IfX t8 (K (.returned t6) w) (DoX prog (mLoad 28 t1) w (pk K) fun t10 w=>
 CallX prog 81 #[t10] w (pk K) fun t11 w=>
 K (.returned t11) w)
theorem S_foliantref19_Check_eq (t0:Value)(w:World)(K:Ending→World→Prop):wpX prog 12 [] [] none (bodyOf Tryz.f49) (topQ prog [.tmp 2] K) (startX [t0]) [] w=S_foliantref19_Check t0 w K:=by kernel_rfl
theorem S_foliantref19_Check_ok {t0:Value}{w:World}{K:Ending→World→Prop}(h:S_foliantref19_Check t0 w K):Calls prog 49 #[t0] w K:=
 calls_of_wpX Tryz.func49 rfl rfl rfl rfl (Eq.mpr (S_foliantref19_Check_eq t0 w K) h)
def S_foliantref19_Size_0 (t3 t10 t11 t12:Value)(w:World)(N1:List Value→World→Prop)(K:Ending→World→Prop):Prop:=
 DoX prog (mBin .lss 3 t12 t11) w (pk K) fun t13 w=>
 IfX t13 (DoX prog (mIA 22 t10 t12) w (pk K) fun t14 w=>
 DoX prog (mLoad 53 t14) w (pk K) fun t15 w=>
 DoX prog (mAlloc 53) w (pk K) fun t5 w=>
 DoX prog (mStore 53 t5 t15) w (pk K) fun _ w=>
 DoX prog (mFA 53 t5 2) w (pk K) fun t17 w=>
 DoX prog (mLoad 26 t17) w (pk K) fun t18 w=>
 CallX prog 17 #[t18] w (pk K) fun t19 w=>
 DoX prog (mBin .add 3 t3 t19) w (pk K) fun t20 w=>
 DoX prog (mBin .add 3 t12 (.int .i64 1)) w (pk K) fun t21 w=>
 N1 [t20,t21] w) (K (.returned t3) w)
def S_foliantref19_Size (t0:Value)(w:World)(K:Ending→World→Prop):Prop:=
 DoX prog (mBox 28 t0) w (pk K) fun t1 w=>
 DoX prog (mFA 28 t1 1) w (pk K) fun t6 w=>
 DoX prog (mLoad 26 t6) w (pk K) fun t7 w=>
 CallX prog 17 #[t7] w (pk K) fun t8 w=>
 DoX prog (mFA 28 t1 0) w (pk K) fun t9 w=>
 DoX prog (mLoad 22 t9) w (pk K) fun t10 w=>
 DoX prog (mB .len #[22] 3 #[false] #[t10]) w (pk K) fun t11 w=>
 LoopX [t8,(.int .i64 0)] w (fun vs1 w N1=>∀_:Sg,S_foliantref19_Size_0 (vs1.getD 0 undef) t10 t11 (vs1.getD 1 undef) w N1 K)
theorem S_foliantref19_Size_eq (t0:Value)(w:World)(K:Ending→World→Prop):wpX prog 23 [] [(3,[3,12])] none (bodyOf Tryz.f33) (topQ prog [.tmp 2] K) (startX [t0]) [] w=S_foliantref19_Size t0 w K:=by kernel_rfl
theorem S_foliantref19_Size_ok {t0:Value}{w:World}{K:Ending→World→Prop}(h:S_foliantref19_Size t0 w K):Calls prog 33 #[t0] w K:=
 calls_of_wpX Tryz.func33 rfl rfl rfl rfl (Eq.mpr (S_foliantref19_Size_eq t0 w K) h)
end
section
open Eng Go.RowKit
theorem RetM.told {f:Nat}{args:Array Value}{M:Mem}{w:World}{x:Value}(h:RetM prog f args M w (fun v _=>v=x)):Ret prog f args w (fun v w'=>v=x∧Below w.heap.size w w'):=
 Ret.mono h fun v w' ⟨N,g,r⟩=>⟨r,g.below⟩
theorem getD_ov {M:Mem}{v:Value}{x:Option Ob}(h:OV M.A M.w v (x.getD Vl.ob0)):∃vk vc,v=obV (x.getD Vl.ob0) vk vc∧OV M.A M.w (obV (x.getD Vl.ob0) vk vc) (x.getD Vl.ob0):=by
 obtain⟨vk,vc,cs,rfl,ha⟩:=h.open;exact⟨vk,vc,rfl,h⟩
theorem dkind_ret (o:Ob)(v:Value)(M:Mem)(w:World)(hw:o.wt≤10000000000)(hM:M.has w)(hv:OV M.A M.w v o) :
  RetM prog 165 #[v] M w (fun r _=>r=.string ⟨(Dk.kind o).toArray⟩):=by
 obtain⟨vk,vc,cs,rfl,ha⟩:=hv.open;refine retM_of hM fun K hK=>S_docs_kind_ok ?_;unfold S_docs_kind;refine o_obb o ha.keys.one ha.kids.one (OwnS.memS hM) fun b w1 ho=>?_;rw[ob_v ho 0 rfl];refine c_mem ho 1 rfl (vget_ret o _ Dk.typeK M w1 (by omega) (ho.hasM 1 rfl) hv) ?_;rintro _ N w2 hle ⟨t,rfl,ht⟩ ho;obtain⟨tk,tc,rfl,ht⟩:=getD_ov ht;simp only[getV,ex];refine o_oba ho fun b3 w3 ho=>?_;refine ob_put 0 ht.oneK ht.oneC ho rfl fun w4 ho=>?_;rw[fa_o0,ob_k ho 0 rfl];simp only[rs];by_cases h5:((Vl.get o Dk.typeK).getD Vl.ob0).k=5
 ·simp only[h5,ne_eq,not_true,decide_false,i_f];rw[fa_o3,ob_s ho 0 rfl];refine hK _ _ N _ 2 ho rfl hle ?_;unfold Dk.kind;rw[if_neg (by simp[h5])]
 ·simp only[h5,ne_eq,not_false_eq_true,decide_true,i_t];refine hK _ _ N _ 2 ho rfl hle ?_;unfold Dk.kind;rw[if_pos h5]
theorem holds_ret (o:Ob)(v:Value)(M:Mem)(w:World)(hw:o.wt≤10000000000)(hM:M.has w)(hv:OV M.A M.w v o) :
  RetM prog 140 #[v] M w (fun r _=>r=.bool (Dk.holds o)):=by
 obtain⟨vk,vc,cs,rfl,ha⟩:=hv.open;refine retM_of hM fun K hK=>S_docs_holds_ok ?_;unfold S_docs_holds;refine o_obb o ha.keys.one ha.kids.one (OwnS.memS hM) fun b w1 ho=>?_;rw[fa_o0,ob_k ho 0 rfl];simp only[rs];by_cases h9:o.k=9
 case neg=>
  simp only[h9,decide_false,rs,g_un];exact hK _ _ M _ 1 ho rfl M.le_refl (by simp[Dk.holds,h9])
 simp only[h9,decide_true,rs];rw[ob_v ho 0 rfl];refine c_below ho (R:=fun r=>r=.string ⟨(Dk.kind o).toArray⟩) (RetM.told (dkind_ret o _ M w1 hw (ho.hasM 1 rfl) hv)) ?_;rintro _ w2 rfl ho;have d1:Dk.objStm=[79,98,106,83,116,109]:=rfl;have d2:Dk.xref=[88,82,101,102]:=rfl;simp only[rs];by_cases h1:Dk.kind o=[79,98,106,83,116,109]
 ·simp only[h1,decide_true,rs,g_un];exact hK _ _ M _ 1 ho rfl M.le_refl (by simp[Dk.holds,h9,h1,d1])
 simp only[h1,decide_false,rs];rw[ob_v ho 0 rfl];refine c_below ho (R:=fun r=>r=.string ⟨(Dk.kind o).toArray⟩) (RetM.told (dkind_ret o _ M w2 hw (ho.hasM 1 rfl) hv)) ?_;rintro _ w3 rfl ho;simp only[rs];exact hK _ _ M _ 1 ho rfl M.le_refl (by simp[Dk.holds,h9,h1,d1,d2])
theorem rhold_ret (o:Ob)(v:Value)(M:Mem)(w:World)(hw:o.wt≤10000000000)(hM:M.has w)(hv:OV M.A M.w v o) :
  RetM prog 104 #[v] M w (fun r _=>r=.bool (Dk.holds o)):=by
 obtain⟨vk,vc,cs,rfl,ha⟩:=hv.open;refine retM_of hM fun K hK=>S_foliantref19_Hold_ok ?_;unfold S_foliantref19_Hold;refine o_obb o ha.keys.one ha.kids.one (OwnS.memS hM) fun b w1 ho=>?_;rw[ob_v ho 0 rfl];refine c_mem ho 1 rfl (rget_ret o _ Dk.typeK M w1 (by omega) (ho.hasM 1 rfl) hv) ?_;rintro _ N w2 hle ⟨t,rfl,ht⟩ ho;obtain⟨tk,tc,rfl,ht⟩:=getD_ov ht;simp only[getV,ex];refine o_oba ho fun b3 w3 ho=>?_;refine ob_put 0 ht.oneK ht.oneC ho rfl fun w4 ho=>?_;rw[fa_o0,ob_k ho 1 rfl];simp only[rs];have hkd:Dk.kind o=if ((Vl.get o Dk.typeK).getD Vl.ob0).k≠5 then [] else ((Vl.get o Dk.typeK).getD Vl.ob0).s:=rfl
 generalize (Vl.get o Dk.typeK).getD Vl.ob0=t at *;by_cases h9:o.k=9
 case neg=>
  simp only[h9,decide_false,rs,g_un];exact hK _ _ N _ 2 ho rfl hle (by simp[Dk.holds,h9])
 simp only[h9,decide_true,rs,fa_o0,ob_k ho 0 rfl];by_cases h5:t.k=5
 case neg=>
  simp only[h5,decide_false,rs,g_un];rw[if_pos h5] at hkd;exact hK _ _ N _ 2 ho rfl hle (by simp[Dk.holds,hkd,Dk.objStm,Dk.xref])
 rw[if_neg (by simp[h5])] at hkd;simp only[h5,decide_true,rs,fa_o3,ob_s ho 0 rfl];have d1:Dk.objStm=[79,98,106,83,116,109]:=rfl;have d2:Dk.xref=[88,82,101,102]:=rfl;by_cases h1:t.s=[79,98,106,83,116,109]
 ·simp only[h1,decide_true,rs,g_un];exact hK _ _ N _ 2 ho rfl hle (by simp[Dk.holds,h9,hkd,h1,d1])
 simp only[h1,decide_false,rs,ob_s ho 0 rfl];exact hK _ _ N _ 2 ho rfl hle (by simp[Dk.holds,h9,hkd,h1,d1,d2])
theorem numbers_ret (i:It){vk vc:Value}(hk:vk.oneCell'=true)(hc:vc.oneCell'=true)(w:World):Ret prog 115 #[itV i vk vc] w (fun r w'=>r=.bool (Dk.numbers i)∧Below w.heap.size w w'):=by
 refine ret_of fun K hK=>S_docs_numbers_ok ?_;unfold S_docs_numbers;refine o_itb i hk hc (Own.start w) fun b w1 ho=>?_;rw[fa_i0,it_num ho 0 rfl];simp only[rs];by_cases h1:1≤i.num
 case neg=>simp only[h1,decide_false,rs,g_un];exact hK _ _ ⟨by simp[Dk.numbers,h1],ho.done⟩
 simp only[h1,decide_true,rs,fa_i0,it_num ho 0 rfl];by_cases h2:i.num≤8191
 case neg=>simp only[h2,decide_false,rs,g_un];exact hK _ _ ⟨by simp[Dk.numbers,h2],ho.done⟩
 simp only[h2,decide_true,rs,fa_i1,it_gen ho 0 rfl];by_cases h3:0≤i.gen
 case neg=>simp only[h3,decide_false,rs,g_un];exact hK _ _ ⟨by simp[Dk.numbers,h3],ho.done⟩
 simp only[h3,decide_true,rs,fa_i1,it_gen ho 0 rfl];exact hK _ _ ⟨by simp[Dk.numbers,h1,h2,h3],ho.done⟩
theorem content_ret (i:It){vk vc:Value}(M:Mem)(w:World)(hw:i.obj.wt≤10000000000)(hM:M.has w)(hv:OV M.A M.w (obV i.obj vk vc) i.obj) :
  RetM prog 116 #[itV i vk vc] M w (fun r _=>r=.int .i64 (Dk.content i)):=by
 refine retM_of hM fun K hK=>S_docs_content_ok ?_;unfold S_docs_content;refine o_itb i hv.oneK hv.oneC (OwnS.memS hM) fun b w1 ho=>?_;rw[fa_i2,it_obj ho 0 rfl];refine c_below ho (R:=fun v=>v=.int .i64 (Vl.check 1 i.obj)) (vCheck_ret i.obj _ w1 (OV.inw (ho.hasM 1 rfl) hv) (by omega)) ?_;rintro _ w2 rfl ho;simp only[n_err];by_cases hc:Vl.check 1 i.obj=0
 case neg=>
  simp only[hc,ne_eq,not_false_eq_true,decide_true,i_t];exact hK _ _ M _ 1 ho rfl M.le_refl (by simp[Dk.content,hc])
 simp only[hc,ne_eq,not_true,decide_false,i_f];rw[fa_i2,fa_o0,it_k ho 0 rfl];simp only[rs];by_cases h8:i.obj.k=8
 ·simp only[h8,decide_true,rs,g_un];exact hK _ _ M _ 1 ho rfl M.le_refl (by simp[Dk.content,hc,h8])
 simp only[h8,decide_false,rs,fa_i2,it_obj ho 0 rfl];refine c_below ho (R:=fun r=>r=.bool (Dk.holds i.obj)) (RetM.told (holds_ret i.obj _ M w2 hw (ho.hasM 1 rfl) hv)) ?_;rintro _ w3 rfl ho;cases hh:Dk.holds i.obj with
|true=>simp only[rs];exact hK _ _ M _ 1 ho rfl M.le_refl (by simp[Dk.content,hc,hh])
|false=>simp only[rs];exact hK _ _ M _ 1 ho rfl M.le_refl (by simp[Dk.content,hc,h8,hh])
theorem robj_ret (i:It){vk vc:Value}(M:Mem)(w:World)(hw:i.obj.wt≤10000000000)(hM:M.has w)(hv:OV M.A M.w (obV i.obj vk vc) i.obj) :
  RetM prog 82 #[itV i vk vc] M w (fun r _=>r=.int .i64 (Dk.content i)):=by
 refine retM_of hM fun K hK=>S_foliantref19_obj_ok ?_;unfold S_foliantref19_obj;refine o_itb i hv.oneK hv.oneC (OwnS.memS hM) fun b w1 ho=>?_;rw[fa_i2,it_obj ho 0 rfl];refine c_below ho (R:=fun v=>v=.int .i64 (Vl.check 1 i.obj)) (rCheck05_ret i.obj _ w1 (OV.inw (ho.hasM 1 rfl) hv) (by omega)) ?_;rintro _ w2 rfl ho;simp only[n_err];by_cases hc:Vl.check 1 i.obj=0
 case neg=>
  simp only[hc,ne_eq,not_false_eq_true,decide_true,i_t];exact hK _ _ M _ 1 ho rfl M.le_refl (by simp[Dk.content,hc])
 simp only[hc,ne_eq,not_true,decide_false,i_f];rw[fa_i2,fa_o0,it_k ho 0 rfl];simp only[rs];by_cases h8:i.obj.k=8
 ·simp only[h8,decide_true,rs,g_un];exact hK _ _ M _ 1 ho rfl M.le_refl (by simp[Dk.content,hc,h8])
 simp only[h8,decide_false,rs,fa_i2,it_obj ho 0 rfl];refine c_below ho (R:=fun r=>r=.bool (Dk.holds i.obj)) (RetM.told (rhold_ret i.obj _ M w2 hw (ho.hasM 1 rfl) hv)) ?_;rintro _ w3 rfl ho;cases hh:Dk.holds i.obj with
|true=>simp only[rs];exact hK _ _ M _ 1 ho rfl M.le_refl (by simp[Dk.content,hc,hh])
|false=>simp only[rs];exact hK _ _ M _ 1 ho rfl M.le_refl (by simp[Dk.content,hc,h8,hh])
end
section
open Eng Go.RowKit
def Dk.prev (l:List It)(i:Nat):Option Int:=if i=0 then none else (l[i - 1]?).map (·.num)
theorem q_sub {P:Program}{C:World→Prop}{K:Value→Prop}{T:TypeId}{k:IntKind}{a b:Int}(h:K (.int k (k.wrap (a - b)))):QDo P C (mBin .sub T (.int k a) (.int k b)) K:=q_do _ (fun _=>r_sub) h
theorem Dk.items_step {l:List It}{i:Nat}(h:i < l.length):Dk.itemsG (Dk.prev l i) (l.drop i)=if Dk.numbers l[i]=false then 2 else if (Dk.prev l i).any (fun n=>decide (l[i].num≤n)) then 9 else if Dk.content l[i]≠0 then Dk.content l[i] else Dk.itemsG (Dk.prev l (i+1)) (l.drop (i+1)):=by
 rw[List.drop_eq_getElem_cons h,Dk.itemsG];have e:Dk.prev l (i+1)=some l[i].num:=by simp[Dk.prev,h]
 rw[e]
theorem Dk.prev_any {l:List It}{i:Nat}(h:i < l.length)(h0:0 < i)(n:Int):(Dk.prev l i).any (fun m=>decide (n≤m))=decide (n≤(l[i - 1]'(by omega)).num):=by
 have e:Dk.prev l i=some (l[i - 1]'(by omega)).num:=by
  unfold Dk.prev;rw[if_neg (by omega),List.getElem?_eq_getElem (by omega)];rfl
 rw[e];rfl
theorem ditems_ret (l:List It)(vi:Value)(cs:List Value)(M:Mem)(w:World)(hl:l.length≤10000000000)(hw:∀i∈l,i.obj.wt≤10000000000)(hM:M.has w)(hs:SlA M.A M.w vi 8 l.length cs)(hall:IVs M.A M.w cs l) :
  RetM prog 89 #[vi] M w (fun r _=>r=.int .i64 (Dk.itemsG none l)):=by
 refine retM_of hM fun K hK=>S_docs_items_ok ?_;unfold S_docs_items;have ho:=OwnS.memS hM;rw[sl_len Tryz.underlying22 (hs.now hM)];refine loop (fun vs W=>∃i:Nat,vs=[.int .i64 i]∧i≤l.length∧Dk.itemsG none l=Dk.itemsG (Dk.prev l i) (l.drop i)∧OwnS M.A w W [.mem M]) (fun vs _=>l.length - n0 vs) ⟨0,rfl,by omega,by simp[Dk.prev],ho⟩ ?_;clear ho;rintro vs w1 ⟨i,rfl,hi,he,ho⟩ _;simp only[S_docs_items_0,gd,rs];by_cases hlt:(i:Int) < (l.length:Int)
 ·have hi':i < l.length:=by omega
  simp only[hlt,decide_true,i_t];obtain⟨vk,vc,bi,oi,hv,hr⟩:=item_at hs hall hi';obtain⟨r1,r2⟩:=hr w1 (ho.hasM 0 rfl);refine do_eq r1 |>.mpr (do_eq (run_it r2) |>.mpr ?_);refine o_ita ho fun b w2 ho=>?_;refine it_put 0 hv.oneK hv.oneC ho rfl fun w3 ho=>?_;have ho:OwnS M.A w w3 [itE b l[i] vk vc,.mem M]:=ho;rw[Dk.items_step hi'] at he;have hwi:=hw l[i] (List.getElem_mem hi');rw[it_v ho 0 rfl];refine c_below ho (R:=fun v=>v=.bool (Dk.numbers l[i])) (numbers_ret l[i] hv.oneK hv.oneC w3) ?_;rintro _ w3 rfl ho;cases hn:Dk.numbers l[i] with
 |false=>
   simp only[rs,Bool.not_false];rw[hn] at he;exact hK _ _ M _ 1 ho rfl M.le_refl (by rw[he];rfl)
 |true=>
  simp only[rs,Bool.not_true];rw[hn] at he;simp only[Bool.true_eq_false,if_false] at he;have rest:(Dk.prev l i).any (fun n=>decide (l[i].num≤n))=false→∀W:World,OwnS M.A w W [itE b l[i] vk vc,.mem M] →
    DoX prog (mLoad 53 (.pointer (some ⟨b,0,none⟩))) W (pk K) (fun t31 x=>CallX prog 116 #[t31] x (pk K) fun t32 x=>
     DoX prog (mEq .neq 32 (.tmp 33) (.const (.int .i64 0)) t32 (.int .i64 0)) x (pk K) fun t34 x=>
     IfX t34 (K (.returned t32) x) (NextX (fun vs W=>∃i:Nat,vs=[.int .i64 i]∧i≤l.length∧Dk.itemsG none l=Dk.itemsG (Dk.prev l i) (l.drop i)∧OwnS M.A w W [.mem M]) (fun vs _=>l.length - n0 vs) [.int .i64 (i:Int)] w1 [.int .i64 (IntKind.wrap .i64 ((i:Int)+1))] x)):=by
   intro ha W ho;rw[ha] at he;simp only[Bool.false_eq_true,if_false] at he;rw[it_v ho 0 rfl];refine c_below ho (R:=fun v=>v=.int .i64 (Dk.content l[i])) (RetM.told (content_ret l[i] M W hwi (ho.hasM 1 rfl) hv)) ?_;rintro _ w5 rfl ho;simp only[n_err];by_cases hc:Dk.content l[i]=0
   ·simp only[hc,ne_eq,not_true,decide_false,i_f];rw[wrap64_id (by omega) (by omega)];exact nextX ⟨i+1,rfl,by omega,by rw[he,if_neg (by simp[hc])],ho.tail⟩ (by simp[n0,RowKit.intOf];omega)
   ·simp only[hc,ne_eq,not_false_eq_true,decide_true,i_t];exact hK _ _ M _ 1 ho rfl M.le_refl (by rw[he,if_pos hc])
  refine quiet (q_gtr ?_);by_cases h0:i=0
  ·have hp:¬(0:Int) < (i:Int):=by omega
   simp only[hp,decide_false,gq];refine q_pf ?_;intro w4 hW;simp only[i_f];exact rest (by simp[Dk.prev,h0]) w4 (ho.grow hW)
  ·have hp:(0:Int) < (i:Int):=by omega
   have hpv:=Dk.prev_any hi' (by omega) l[i].num;simp only[hp,decide_true,gq];refine q_do _ (fun _=>run_fa fo_i0) ?_;refine q_at (.int .i64 l[i].num) (fun W hW=>run_load_cell nInt5 ((ho.grow hW).cell 0 rfl 0 rfl)) ?_;refine q_sub ?_;rw[wrap64_id (by omega) (by omega),show (i:Int) - 1=((i - 1:Nat):Int) by omega];obtain⟨pk',pc,bp,op,hpv',hrp⟩:=item_at hs hall (show i - 1 < l.length by omega);have hMW:∀W,Below w3.heap.size w3 W→M.has W:=fun W hW=>Mem.has_below (ho.hasM 1 rfl) hW;refine q_at _ (fun W hW=>(hrp W (hMW W hW)).1) ?_;refine q_do _ (fun _=>run_fa fo_i0) ?_;refine q_at (.int .i64 l[i - 1].num) (fun W hW=>run_load_cell nInt5 ((hrp W (hMW W hW)).2 0 _ rfl)) ?_;refine q_leq ?_;refine q_pt ?_;intro w4 hW;have ho:=ho.grow hW;by_cases hle:l[i].num≤l[i - 1].num
   ·simp only[hle,decide_true,i_t];rw[hpv,decide_eq_true hle] at he;exact hK _ _ M _ 1 ho rfl M.le_refl (by rw[he];rfl)
   ·simp only[hle,decide_false,i_f];exact rest (by rw[hpv,decide_eq_false hle]) w4 ho
 ·simp only[hlt,decide_false,i_f];rw[List.drop_eq_nil_of_le (by omega)] at he;exact hK _ _ M _ 0 ho rfl M.le_refl (by rw[he];rfl)
theorem ritems_ret (l:List It)(vi:Value)(cs:List Value)(M:Mem)(w:World)(hl:l.length≤10000000000)(hw:∀i∈l,i.obj.wt≤10000000000)(hM:M.has w)(hs:SlA M.A M.w vi 8 l.length cs)(hall:IVs M.A M.w cs l) :
  RetM prog 80 #[vi] M w (fun r _=>r=.int .i64 (Dk.itemsG none l)):=by
 refine retM_of hM fun K hK=>S_foliantref19_Items_ok ?_;unfold S_foliantref19_Items;have ho:=OwnS.memS hM;rw[sl_len Tryz.underlying22 (hs.now hM)];refine loop (fun vs W=>∃i:Nat,vs=[.int .i64 i]∧i≤l.length∧Dk.itemsG none l=Dk.itemsG (Dk.prev l i) (l.drop i)∧OwnS M.A w W [.mem M]) (fun vs _=>l.length - n0 vs) ⟨0,rfl,by omega,by simp[Dk.prev],ho⟩ ?_;clear ho;rintro vs w1 ⟨i,rfl,hi,he,ho⟩ _;simp only[S_foliantref19_Items_0,gd,rs];by_cases hlt:(i:Int) < (l.length:Int)
 ·have hi':i < l.length:=by omega
  simp only[hlt,decide_true,i_t];obtain⟨vk,vc,bi,oi,hv,hr⟩:=item_at hs hall hi';obtain⟨r1,r2⟩:=hr w1 (ho.hasM 0 rfl);refine do_eq r1 |>.mpr (do_eq (run_it r2) |>.mpr ?_);refine o_ita ho fun b w2 ho=>?_;refine it_put 0 hv.oneK hv.oneC ho rfl fun w3 ho=>?_;have ho:OwnS M.A w w3 [itE b l[i] vk vc,.mem M]:=ho;rw[Dk.items_step hi'] at he;have hwi:=hw l[i] (List.getElem_mem hi');simp only[rs,fa_i0,it_num ho 0 rfl];by_cases h1:l[i].num < 1
  ·simp only[h1,decide_true,rs,g_un];have hn:Dk.numbers l[i]=false:=by simp[Dk.numbers,show ¬1≤l[i].num by omega]
   exact hK _ _ M _ 1 ho rfl M.le_refl (by rw[he,if_pos hn])
  simp only[h1,decide_false,rs,fa_i0,it_num ho 0 rfl];by_cases h2:8191 < l[i].num
  ·simp only[h2,decide_true,rs,g_un];have hn:Dk.numbers l[i]=false:=by simp[Dk.numbers,show ¬l[i].num≤8191 by omega]
   exact hK _ _ M _ 1 ho rfl M.le_refl (by rw[he,if_pos hn])
  simp only[h2,decide_false,rs,fa_i1,it_gen ho 0 rfl];by_cases h3:l[i].gen < 0
  ·simp only[h3,decide_true,rs,g_un];have hn:Dk.numbers l[i]=false:=by simp[Dk.numbers,show ¬0≤l[i].gen by omega]
   exact hK _ _ M _ 1 ho rfl M.le_refl (by rw[he,if_pos hn])
  simp only[h3,decide_false,rs,fa_i1,it_gen ho 0 rfl];by_cases h4:65535 < l[i].gen
  ·simp only[h4,decide_true,rs,g_un];have hn:Dk.numbers l[i]=false:=by simp[Dk.numbers,show ¬l[i].gen≤65535 by omega]
   exact hK _ _ M _ 1 ho rfl M.le_refl (by rw[he,if_pos hn])
  simp only[h4,decide_false,rs];have hn:Dk.numbers l[i]=true:=by
   simp[Dk.numbers,show 1≤l[i].num by omega,show l[i].num≤8191 by omega,show 0≤l[i].gen by omega,show l[i].gen≤65535 by omega]
  rw[hn] at he;simp only[Bool.true_eq_false,if_false] at he;have rest:(Dk.prev l i).any (fun n=>decide (l[i].num≤n))=false→∀W:World,OwnS M.A w W [itE b l[i] vk vc,.mem M] →
    DoX prog (mLoad 53 (.pointer (some ⟨b,0,none⟩))) W (pk K) (fun t31 x=>CallX prog 82 #[t31] x (pk K) fun t32 x=>
     DoX prog (mEq .neq 32 (.tmp 46) (.const (.int .i64 0)) t32 (.int .i64 0)) x (pk K) fun t34 x=>
     IfX t34 (K (.returned t32) x) (NextX (fun vs W=>∃i:Nat,vs=[.int .i64 i]∧i≤l.length∧Dk.itemsG none l=Dk.itemsG (Dk.prev l i) (l.drop i)∧OwnS M.A w W [.mem M]) (fun vs _=>l.length - n0 vs) [.int .i64 (i:Int)] w1 [.int .i64 (IntKind.wrap .i64 ((i:Int)+1))] x)):=by
   intro ha W ho;rw[ha] at he;simp only[Bool.false_eq_true,if_false] at he;rw[it_v ho 0 rfl];refine c_below ho (R:=fun v=>v=.int .i64 (Dk.content l[i])) (RetM.told (robj_ret l[i] M W hwi (ho.hasM 1 rfl) hv)) ?_;rintro _ w5 rfl ho;simp only[n_err];by_cases hc:Dk.content l[i]=0
   ·simp only[hc,ne_eq,not_true,decide_false,i_f];rw[wrap64_id (by omega) (by omega)];exact nextX ⟨i+1,rfl,by omega,by rw[he,if_neg (by simp[hc])],ho.tail⟩ (by simp[n0,RowKit.intOf];omega)
   ·simp only[hc,ne_eq,not_false_eq_true,decide_true,i_t];exact hK _ _ M _ 1 ho rfl M.le_refl (by rw[he,if_pos hc])
  refine quiet (q_gtr ?_);by_cases h0:i=0
  ·have hp:¬(0:Int) < (i:Int):=by omega
   simp only[hp,decide_false,gq];refine q_pf ?_;intro w4 hW;simp only[i_f];exact rest (by simp[Dk.prev,h0]) w4 (ho.grow hW)
  ·have hp:(0:Int) < (i:Int):=by omega
   have hpv:=Dk.prev_any hi' (by omega) l[i].num;simp only[hp,decide_true,gq];refine q_do _ (fun _=>run_fa fo_i0) ?_;refine q_at (.int .i64 l[i].num) (fun W hW=>run_load_cell nInt5 ((ho.grow hW).cell 0 rfl 0 rfl)) ?_;refine q_sub ?_;rw[wrap64_id (by omega) (by omega),show (i:Int) - 1=((i - 1:Nat):Int) by omega];obtain⟨pk',pc,bp,op,hpv',hrp⟩:=item_at hs hall (show i - 1 < l.length by omega);have hMW:∀W,Below w3.heap.size w3 W→M.has W:=fun W hW=>Mem.has_below (ho.hasM 1 rfl) hW;refine q_at _ (fun W hW=>(hrp W (hMW W hW)).1) ?_;refine q_do _ (fun _=>run_fa fo_i0) ?_;refine q_at (.int .i64 l[i - 1].num) (fun W hW=>run_load_cell nInt5 ((hrp W (hMW W hW)).2 0 _ rfl)) ?_;refine q_leq ?_;refine q_pt ?_;intro w4 hW;have ho:=ho.grow hW;by_cases hle:l[i].num≤l[i - 1].num
   ·simp only[hle,decide_true,i_t];rw[hpv,decide_eq_true hle] at he;exact hK _ _ M _ 1 ho rfl M.le_refl (by rw[he];rfl)
   ·simp only[hle,decide_false,i_f];exact rest (by rw[hpv,decide_eq_false hle]) w4 ho
 ·simp only[hlt,decide_false,i_f];rw[List.drop_eq_nil_of_le (by omega)] at he;exact hK _ _ M _ 0 ho rfl M.le_refl (by rw[he];rfl)
end
section
open Eng
def S_slices_IndexFunc_foliant_api_Item_foliant_api_Item_0 (t0 t1 t7 t8:Value)(w:World)(N1:List Value→World→Prop)(K:Ending→World→Prop):Prop:=
 DoX prog (mBin .lss 3 t8 t7) w (pk K) fun t9 w=>
 IfX t9 (DoX prog (mIA 22 t0 t8) w (pk K) fun t14 w=>
 DoX prog (mLoad 53 t14) w (pk K) fun t15 w=>
 DoX prog (mCallV t1 #[t15]) w (pk K) fun t16 w=>
 IfX t16 (K (.returned t8) w) (DoX prog (mBin .add 3 t8 (.int .i64 1)) w (pk K) fun t18 w=>
 N1 [t18] w)) (K (.returned (.int .i64 (-1))) w)
def S_slices_IndexFunc_foliant_api_Item_foliant_api_Item (t0 t1:Value)(w:World)(K:Ending→World→Prop):Prop:=
 DoX prog (mB .len #[22] 3 #[false] #[t0]) w (pk K) fun t7 w=>
 LoopX [(.int .i64 0)] w (fun vs1 w N1=>∀_:Sg,S_slices_IndexFunc_foliant_api_Item_foliant_api_Item_0 t0 t1 t7 (vs1.getD 0 undef) w N1 K)
theorem S_slices_IndexFunc_foliant_api_Item_foliant_api_Item_eq (t0 t1:Value)(w:World)(K:Ending→World→Prop):wpX prog 19 [] [(2,[8])] none (bodyOf Tryz.f73) (topQ prog [.tmp 4] K) (startX [t0,t1]) [] w=S_slices_IndexFunc_foliant_api_Item_foliant_api_Item t0 t1 w K:=by kernel_rfl
theorem S_slices_IndexFunc_foliant_api_Item_foliant_api_Item_ok {t0 t1:Value}{w:World}{K:Ending→World→Prop}(h:S_slices_IndexFunc_foliant_api_Item_foliant_api_Item t0 t1 w K):Calls prog 73 #[t0,t1] w K:=
 calls_of_wpX Tryz.func73 rfl rfl rfl rfl (Eq.mpr (S_slices_IndexFunc_foliant_api_Item_foliant_api_Item_eq t0 t1 w K) h)
end
end Go.Proofs.YtoobidofdpdkbaaGreatDoor

namespace Go.Proofs.YtoobidofdpdkbaaGreatDoor
section
open Eng Go.RowKit
theorem find_idx {α:Type}(p:α→Bool):∀l:List α,l.find? p=l[l.findIdx p]?
|[]=>rfl
|a::l=>by
  rw[List.find?_cons,List.findIdx_cons];cases h:p a with
 |true=>simp
 |false=>simp[find_idx p l]
theorem findIdx_at {α:Type}{p:α→Bool}{l:List α}{i:Nat}(hi:i < l.length)(h1:∀m (h:m < l.length),m < i→p l[m]=false)(h2:p l[i]=true):l.findIdx p=i:=by
 have hle:l.findIdx p≤i:=by
  rcases Nat.lt_or_ge i (l.findIdx p) with h|h
  ·have:=List.not_of_lt_findIdx h;rw[h2] at this;simp at this
  ·exact h
 rcases Nat.lt_or_ge (l.findIdx p) i with h|h
 ·have hlt:l.findIdx p < l.length:=by omega
  have:=h1 _ hlt h;have hp:=List.findIdx_getElem (w:=hlt);rw[this] at hp;cases hp
 ·omega
def ixV (l:List It)(p:It→Bool):Value:=.int .i64 (if l.findIdx p < l.length then (l.findIdx p:Int) else -1)
theorem ixf_ret (l:List It)(vi:Value)(cs:List Value)(M:Mem)(w:World)(f:Nat)(ca:Array Value)(p:It→Bool)(I:World→Prop)(hf:plainB prog f=true)(hl:l.length≤10000000000)(hs:SlA M.A M.w vi 8 l.length cs)(hall:IVs M.A M.w cs l)
  (hI:I w) (hB:∀W W',I W→Below W.heap.size W W'→I W') (hM:∀W,I W→M.has W)
  (hp:∀(i:It) (vk vc:Value) (W:World),I W→vk.oneCell'=true→vc.oneCell'=true→Ret prog f (#[]++#[itV i vk vc]++ca) W (fun v w'=>v=.bool (p i)∧Below W.heap.size W w')) :
  Ret prog 73 #[vi,.func (.func f) #[] ca] w (fun v w'=>v=ixV l p∧Below w.heap.size w w'):=by
 refine ret_of fun K hK=>S_slices_IndexFunc_foliant_api_Item_foliant_api_Item_ok ?_;unfold S_slices_IndexFunc_foliant_api_Item_foliant_api_Item;rw[sl_len Tryz.underlying22 (hs.now (hM w hI))];refine loop (fun vs W=>∃i:Nat,vs=[.int .i64 i]∧i≤l.length∧(∀m (h:m < l.length),m < i→p l[m]=false)∧I W∧Own w W []) (fun vs _=>l.length - n0 vs) ⟨0,rfl,by omega,fun m _ h=>by omega,hI,Own.start w⟩ ?_;rintro vs w1 ⟨i,rfl,hi,hlo,hI1,ho⟩ _;simp only[S_slices_IndexFunc_foliant_api_Item_foliant_api_Item_0,gd,rs];by_cases hlt:(i:Int) < (l.length:Int)
 ·have hi':i < l.length:=by omega
  simp only[hlt,decide_true,i_t];obtain⟨vk,vc,bi,oi,hv,hr⟩:=item_at hs hall hi';obtain⟨r1,r2⟩:=hr w1 (hM w1 hI1);refine do_eq r1 |>.mpr (do_eq (run_it r2) |>.mpr ?_);refine c_val hf (c_ret (hp l[i] vk vc w1 hI1 hv.oneK hv.oneC) ?_);rintro _ w2 ⟨rfl,hb⟩;have ho:=ho.grow hb;cases hc:p l[i] with
 |true=>
   simp only[i_t];have:=findIdx_at hi' hlo hc;exact hK _ _ ⟨by unfold ixV;rw[this,if_pos hi'],ho.done⟩
 |false=>
   simp only[i_f];rw[wrap64_id (by omega) (by omega)];refine nextX ⟨i+1,rfl,by omega,fun m hm hmi=>?_,hB _ _ hI1 hb,ho⟩ (by simp[n0,RowKit.intOf];omega);rcases Nat.lt_or_ge m i with h|h
   ·exact hlo m hm h
   ·have:m=i:=by omega
    subst this;exact hc
 ·simp only[hlt,decide_false,i_f];refine hK _ _ ⟨?_,ho.done⟩;have:¬l.findIdx p < l.length:=by
   intro h;have h1:=hlo _ h (by omega);have h2:=List.findIdx_getElem (w:=h);rw[h1] at h2;cases h2
  unfold ixV;rw[if_neg this]
theorem follow1_plain:plainB prog 74=true:=by kernel_rfl
theorem follow1_ret (i:It)(o:Ob){vk vc xk xc:Value}{b:Nat}(W:World)(hb:(obE b o xk xc).is W)(hk:vk.oneCell'=true)(hc:vc.oneCell'=true) :
  Ret prog 74 #[itV i vk vc,.pointer (some ⟨b,0,none⟩)] W (fun v w'=>v=.bool (decide (i.num=o.n))∧Below W.heap.size W w'):=by
 refine ret_of fun K hK=>S_docs_Follow_1_ok ?_;unfold S_docs_Follow_1;refine o_itb i hk hc (Own.start W) fun b2 w1 ho=>?_;have h1:w1.cell? ⟨b,0+1,none⟩=some (.int .i64 o.n):=ho.old (cells_cell (show (Ent.cells b (obC o xk xc) 26).is W from hb) (i:=1) rfl);rw[fa_i0,it_num ho 0 rfl,fa_o1,l_cell nI65 h1];simp only[rs];exact hK _ _ ⟨rfl,ho.done⟩
structure Dk.Ok (d:Dc):Prop where
 len:d.items.length≤10000000000
 items:∀i∈d.items,i.obj.wt≤1000000000
 trailer:d.trailer.wt≤1000000000
theorem Dk.find_ok {d:Dc}(h:Dk.Ok d){n:Int}{i:It}(hi:Dk.find d.items n=some i):i∈d.items∧i.obj.wt≤1000000000:=by
 have:=List.mem_of_find?_eq_some hi;exact⟨this,h.items i this⟩
theorem ob0_wt:Vl.ob0.wt=6:=by rw[Vl.wt_eq];rfl
theorem Dk.follow_wt {d:Dc}(h:Dk.Ok d){o:Ob}(hw:o.wt≤1000000000):(Dk.follow d o).wt≤1000000000:=by
 unfold Dk.follow;split
 ·exact hw
 ·unfold Dk.pick;split
  ·rw[ob0_wt];omega
  ·rename_i i hi
   split
   ·rw[ob0_wt];omega
   ·exact (Dk.find_ok h hi).2
section
variable {w:World}{S:Nat→Prop}{w0:World}{L:List Ent}
theorem ret_obi {K:Ending→World→Prop}{b:Nat}{o:Ob}{vk vc:Value}(i:Nat)(ho:OwnS S w0 w L)(hi:L[i]?=some (obE b o vk vc))(k:K (.returned (obV o vk vc)) w):RetX prog [.cell (.pointer (some ⟨b,0,none⟩)) 26] w K:=ret_v1 (rv_cell (ho.agg i hi aggOb)) k
end
theorem dfollow_ret (d:Dc)(o:Ob)(dv v:Value)(M:Mem)(w:World)(hd:Dk.Ok d)(hw:o.wt≤1000000000)(hM:M.has w)(hdv:DV M.A M.w dv d)(hv:OV M.A M.w v o) :
  RetM prog 39 #[dv,v] M w (fun r N=>OV N.A N.w r (Dk.follow d o)):=by
 obtain⟨vk,vc,ocs,rfl,ha⟩:=hv.open;obtain⟨vi,tk,tc,cs,rfl,hda⟩:=hdv;refine retM_of hM fun K hK=>S_docs_Follow_ok ?_;unfold S_docs_Follow;refine o_dcb d hda.items.one hda.trailer.oneK hda.trailer.oneC (OwnS.memS hM) fun b2 w1 ho=>?_;refine o_obb o ha.keys.one ha.kids.one ho fun b3 w2 ho=>?_;refine o_oba ho fun b4 w3 ho=>?_;rw[fa_o0,ob_k ho 1 rfl];simp only[rs];by_cases h8:o.k=8
 case neg=>
  simp only[h8,ne_eq,not_false_eq_true,decide_true,i_t];rw[ob_v ho 1 rfl];refine c_mem ho 3 rfl (clone_ret o _ M w3 (by omega) (ho.hasM 3 rfl) hv) fun y N w4 hle hy ho=>?_;obtain⟨yk,yc,ycs,rfl,hya⟩:=hy.open;refine ob_put 0 hya.keys.one hya.kids.one ho rfl fun w5 ho=>?_;refine ret_obi 0 ho rfl (hK _ _ N _ 3 ho rfl hle ?_);unfold Dk.follow;rw[if_pos h8];exact hy
 simp only[h8,ne_eq,not_true,decide_false,i_f];rw[fa_d0,dc_items ho 2 rfl];have hfo:Dk.follow d o=Dk.pick (Dk.find d.items o.n) o.g:=by unfold Dk.follow;rw[if_neg (by simp[h8])]
 have hfi:Dk.find d.items o.n=d.items[d.items.findIdx (fun i=>decide (i.num=o.n))]?:=find_idx _ _;refine c_below ho (R:=fun v=>v=ixV d.items (fun i=>decide (i.num=o.n))) (ixf_ret d.items vi cs M w3 74 #[.pointer (some ⟨b3,0,none⟩)] (fun i=>decide (i.num=o.n)) (fun W=>(obE b3 o vk vc).is W∧M.has W) follow1_plain hd.len hda.items hda.all
  ⟨ho.at_ 1 rfl,ho.hasM 3 rfl⟩ (fun W W' h hb=>⟨(obE b3 o vk vc).keep h.1 fun k hk=>hb.block k ((obE b3 o vk vc).lt h.1 k hk),Mem.has_below h.2 hb⟩) (fun W h=>h.2)
  (fun i xk xc W h hk hc=>follow1_ret i o W h.1 hk hc)) ?_
 rintro _ w4 rfl ho;have no:∀{W:World},OwnS M.A w W [obE b4 ob0 nilS nilS,obE b3 o vk vc,dcE b2 d vi tk tc,.mem M]→Dk.follow d o=Vl.ob0→DoX prog (mBuild 26 #[]) W (pk K) (fun t W=>DoX prog (mStore 26 (.pointer (some ⟨b4,0,none⟩)) t) W (pk K) fun _ W=>RetX prog [.cell (.pointer (some ⟨b4,0,none⟩)) 26] W K):=by
  intro W ho hg;rw[m_ob0];refine ob_put 0 rfl rfl ho rfl fun w4 ho=>?_;exact ret_obi 0 ho rfl (hK _ _ M _ 3 ho rfl M.le_refl (by rw[hg];exact ob0_ov M))
 unfold ixV;by_cases hix:d.items.findIdx (fun i=>decide (i.num=o.n)) < d.items.length
 ·rw[if_pos hix];rw[List.getElem?_eq_getElem hix] at hfi;rw[hfi] at hfo;simp only[Dk.pick] at hfo;have hwi:=hd.items _ (List.getElem_mem hix);generalize d.items.findIdx (fun i=>decide (i.num=o.n))=ix at *;obtain⟨xk,xc,bi,oi,hx,hr⟩:=item_at hda.items hda.all hix;have hMW:∀W,Below w4.heap.size w4 W→M.has W:=fun W hW=>Mem.has_below (ho.hasM 3 rfl) hW;have hn:¬((ix:Int) < 0):=by omega
  refine quiet (q_lss ?_);simp only[hn,decide_false,gq];refine q_do _ (fun _=>run_fa fo_d0) ?_;refine q_at vi (fun W hW=>run_load_cell nSlIt ((ho.grow hW).cell 2 rfl 0 rfl)) ?_;refine q_at _ (fun W hW=>(hr W (hMW W hW)).1) ?_;refine q_do _ (fun _=>run_fa fo_i1) ?_;refine q_at (.int .i64 d.items[ix].gen) (fun W hW=>run_load_cell nInt5 ((hr W (hMW W hW)).2 1 _ rfl)) ?_;refine q_do _ (fun _=>run_fa fo_o2) ?_;refine q_at (.int .i64 o.g) (fun W hW=>run_load_cell nInt5 ((ho.grow hW).cell 1 rfl 2 rfl)) ?_;refine q_ne ?_;refine q_pf ?_;intro w5 hW;have ho:=ho.grow hW;by_cases hg:d.items[ix].gen=o.g
  ·simp only[hg,ne_eq,not_true,decide_false,i_f];rw[if_neg (by simp[hg])] at hfo;rw[fa_d0,dc_items ho 2 rfl];obtain⟨r1,r2⟩:=hr w5 (ho.hasM 3 rfl);refine do_eq r1 |>.mpr ?_;rw[fa_i2];refine do_eq (run_load_at (T:=26) (a:=⟨bi,oi+2,none⟩) (AtV.agg aggOb (cs:=obC d.items[ix].obj xk xc) rfl fun j u hj=>by rw[Nat.add_assoc];exact r2 (2+j) u (by rw[Nat.add_comm];exact hj))) |>.mpr ?_;refine c_mem ho 3 rfl (clone_ret _ _ M w5 (by omega) (ho.hasM 3 rfl) hx) fun y N w6 hle hy ho=>?_;obtain⟨yk,yc,ycs,rfl,hya⟩:=hy.open;refine ob_put 0 hya.keys.one hya.kids.one ho rfl fun w7 ho=>?_;exact ret_obi 0 ho rfl (hK _ _ N _ 3 ho rfl hle (by rw[hfo];exact hy))
  ·simp only[hg,ne_eq,not_false_eq_true,decide_true,i_t];rw[if_pos hg] at hfo;exact no ho hfo
 ·rw[if_neg hix];rw[List.getElem?_eq_none (by omega)] at hfi;rw[hfi] at hfo;simp only[Dk.pick] at hfo;refine quiet (q_lss ?_);have hn:((-1:Int) < 0):=by omega
  simp only[hn,decide_true,gq];refine q_pt ?_;intro w5 hW;simp only[i_t];exact no (ho.grow hW) hfo
theorem rfollow_ret (d:Dc)(o:Ob)(dv v:Value)(M:Mem)(w:World)(hd:Dk.Ok d)(hM:M.has w)(hdv:DV M.A M.w dv d)(hv:OV M.A M.w v o) :
  RetM prog 41 #[dv,v] M w (fun r N=>OV N.A N.w r (Dk.follow d o)):=by
 obtain⟨vk,vc,ocs,rfl,ha⟩:=hv.open;obtain⟨vi,tk,tc,cs,rfl,hda⟩:=hdv;refine retM_of hM fun K hK=>S_foliantref19_Follow_ok ?_;unfold S_foliantref19_Follow;have hlen:=hd.len;refine o_dcb d hda.items.one hda.trailer.oneK hda.trailer.oneC (OwnS.memS hM) fun b2 w1 ho=>?_;refine o_obb o ha.keys.one ha.kids.one ho fun b3 w2 ho=>?_;refine o_oba ho fun b4 w3 ho=>?_;rw[fa_o0,ob_k ho 1 rfl];simp only[rs];by_cases h8:o.k=8
 case neg=>
  simp only[h8,ne_eq,not_false_eq_true,decide_true,i_t];rw[ob_v ho 1 rfl];refine ob_put 0 ha.keys.one ha.kids.one ho rfl fun w5 ho=>?_;refine ret_obi 0 ho rfl (hK _ _ M _ 3 ho rfl M.le_refl ?_);unfold Dk.follow;rw[if_pos h8];exact hv
 simp only[h8,ne_eq,not_true,decide_false,i_f];rw[fa_d0,dc_items ho 2 rfl,sl_len Tryz.underlying22 (hda.items.now (ho.hasM 3 rfl))];have hfo:Dk.follow d o=Dk.pick (Dk.find d.items o.n) o.g:=by unfold Dk.follow;rw[if_neg (by simp[h8])]
 have hfi:Dk.find d.items o.n=d.items[d.items.findIdx (fun i=>decide (i.num=o.n))]?:=find_idx _ _;refine loop (fun vs W=>∃i:Nat,vs=[.int .i64 i]∧i≤d.items.length∧(∀m (h:m < d.items.length),m < i→decide (d.items[m].num=o.n)=false)∧OwnS M.A w W [obE b4 ob0 nilS nilS,obE b3 o vk vc,dcE b2 d vi tk tc,.mem M]) (fun vs _=>d.items.length - n0 vs) ⟨0,rfl,by omega,fun m _ h=>by omega,ho⟩ ?_;clear ho;rintro vs w4 ⟨i,rfl,hi,hlo,ho⟩ _;simp only[S_foliantref19_Follow_0,gd,rs];by_cases hlt:(i:Int) < (d.items.length:Int)
 ·have hi':i < d.items.length:=by omega
  simp only[hlt,decide_true,i_t];obtain⟨xk,xc,bi,oi,hx,hr⟩:=item_at hda.items hda.all hi';obtain⟨r1,r2⟩:=hr w4 (ho.hasM 3 rfl);refine do_eq r1 |>.mpr (do_eq (run_it r2) |>.mpr ?_);refine o_ita ho fun b6 w5 ho=>?_;refine it_put 0 hx.oneK hx.oneC ho rfl fun w6 ho=>?_;rw[fa_i0,it_num ho 0 rfl,fa_o1,ob_n ho 2 rfl];simp only[rs];by_cases hn:d.items[i].num=o.n
  ·have hidx:=findIdx_at (p:=fun i:It=>decide (i.num=o.n)) hi' hlo (by simp[hn]);rw[hidx,List.getElem?_eq_getElem hi'] at hfi;rw[hfi] at hfo;simp only[Dk.pick] at hfo;simp only[hn,decide_true,i_t];rw[fa_i1,it_gen ho 0 rfl,fa_o2,ob_g ho 2 rfl];simp only[rs];by_cases hg:d.items[i].gen=o.g
   ·simp only[hg,ne_eq,not_true,decide_false,i_f];rw[if_neg (by simp[hg])] at hfo;rw[fa_i2,it_obj ho 0 rfl];refine ob_put 1 hx.oneK hx.oneC ho rfl fun w7 ho=>?_;exact ret_obi 1 ho rfl (hK _ _ M _ 4 ho rfl M.le_refl (by rw[hfo];exact hx))
   ·simp only[hg,ne_eq,not_false_eq_true,decide_true,i_t];rw[if_pos hg] at hfo;rw[m_ob0];refine ob_put 1 rfl rfl ho rfl fun w7 ho=>?_;exact ret_obi 1 ho rfl (hK _ _ M _ 4 ho rfl M.le_refl (by rw[hfo];exact ob0_ov M))
  ·simp only[hn,decide_false,i_f];rw[wrap64_id (by omega) (by omega)];refine nextX ⟨i+1,rfl,by omega,fun m hm hmi=>?_,ho.tail⟩ (by simp[n0,RowKit.intOf];omega);rcases Nat.lt_or_ge m i with h|h
   ·exact hlo m hm h
   ·have:m=i:=by omega
    subst this;exact decide_eq_false hn
 ·simp only[hlt,decide_false,i_f];have:¬d.items.findIdx (fun i=>decide (i.num=o.n)) < d.items.length:=by
   intro h;have h1:=hlo _ h (by omega);have h2:=List.findIdx_getElem (w:=h);rw[h1] at h2;cases h2
  rw[List.getElem?_eq_none (by omega)] at hfi;rw[hfi] at hfo;simp only[Dk.pick] at hfo;rw[m_ob0];refine ob_put 0 rfl rfl ho rfl fun w7 ho=>?_;exact ret_obi 0 ho rfl (hK _ _ M _ 3 ho rfl M.le_refl (by rw[hfo];exact ob0_ov M))
end
section
open Eng Go.RowKit
theorem Vl.got_wt {o v:Ob}{k:List UInt8}(h:Vl.get o k=some v):v.wt≤o.wt:=by
 unfold Vl.get at h;split at h
 ·split at h
  ·rename_i h1 h2
   obtain⟨hl,rfl⟩:=List.getElem?_eq_some_iff.1 h;have:=kid_wt hl;omega
  ·cases h
 ·cases h
theorem str_at {M:Mem}{v:Value}{l:List (List UInt8)}(hs:SlA M.A M.w v 1 l.length (strsV l)){i:Nat}(hi:i < l.length) :
  ∃p,∀W,M.has W→(mIA 23 v (.int .i64 (i:Int))).run prog W=.ok (.value (.pointer (some p))) W∧(mLoad 9 (.pointer (some p))).run prog W=.ok (.value (.string ⟨l[i].toArray⟩)) W:=by
 obtain⟨b,off,cap,rfl,_⟩:=sl_open hs.1 (by omega);refine⟨⟨b,off+i,none⟩,fun W hk=>⟨?_,?_⟩⟩
 ·have:=run_ia (P:=prog) (T:=23) (b:=b) (off:=off) (cap:=cap) (n:=l.length) (k:=.i64) (i:=(i:Int)) (w:=W) Tryz.underlying23 (show _=some 1 by kernel_rfl) (by omega) (by omega);rw[Int.toNat_natCast,Nat.mul_one] at this;exact this
 ·obtain⟨b',off',cap',he,hc⟩:=sl_open (hs.now hk) (by omega);cases he;exact run_load_cell nStr5 (hc i _ (strsV_get hi))
section
variable {w:World}{S:Nat→Prop}{w0:World}{L:List Ent}
end
theorem Dk.path_none (d:Dc)(o:Ob){l:List (List UInt8)}{i:Nat}(h:i < l.length)(hg:Vl.get o l[i]=none):Dk.path d o (l.drop i)=Vl.ob0:=by
 rw[List.drop_eq_getElem_cons h,Dk.path,hg]
theorem Dk.path_some (d:Dc)(o:Ob){v:Ob}{l:List (List UInt8)}{i:Nat}(h:i < l.length)(hg:Vl.get o l[i]=some v):Dk.path d o (l.drop i)=Dk.path d (Dk.follow d v) (l.drop (i+1)):=by
 rw[List.drop_eq_getElem_cons h,Dk.path,hg]
theorem Dk.path_wt {d:Dc}(h:Dk.Ok d):∀(ks:List (List UInt8)) {o:Ob},o.wt≤1000000000→(Dk.path d o ks).wt≤1000000000
|[],o,ho=>ho
|k::ks,o,ho=>by
  rw[Dk.path];split
  ·rw[ob0_wt];omega
  ·rename_i v hv
   have:=Vl.got_wt hv;exact Dk.path_wt h ks (Dk.follow_wt h (by omega))
theorem dpath_ret (d:Dc)(o:Ob)(ks:List (List UInt8))(dv v kv:Value)(M:Mem)(w:World)(hd:Dk.Ok d)(hw:o.wt≤1000000000)(hl:ks.length≤1000000000)(hM:M.has w)(hdv:DV M.A M.w dv d)(hv:OV M.A M.w v o)(hk:SlA M.A M.w kv 1 ks.length (strsV ks)) :
  RetM prog 58 #[dv,v,kv] M w (fun r N=>OV N.A N.w r (Dk.path d (Dk.follow d o) ks)):=by
 obtain⟨vk,vc,ocs,rfl,ha⟩:=hv.open;obtain⟨vi,tk,tc,cs,rfl,hda⟩:=hdv;refine retM_of hM fun K hK=>S_docs_Path_ok ?_;unfold S_docs_Path;refine o_dcb d hda.items.one hda.trailer.oneK hda.trailer.oneC (OwnS.memS hM) fun b2 w1 ho=>?_;refine o_obb o ha.keys.one ha.kids.one ho fun b3 w2 ho=>?_;refine o_oba ho fun b4 w3 ho=>?_;rw[dc_v ho 2 rfl,ob_v ho 1 rfl];refine c_mem ho 3 rfl (dfollow_ret d o _ _ M w3 hd hw (ho.hasM 3 rfl) hda.dv hv) fun y N w4 hle hy ho=>?_;obtain⟨yk,yc,ycs,rfl,hya⟩:=hy.open;refine ob_put 1 hya.keys.one hya.kids.one ho rfl fun w5 ho=>?_;rw[sl_len Tryz.underlying23 (hk.now (Mem.has_of hle (ho.hasM 3 rfl)))];refine loop (fun vs W=>∃(i:Nat) (N:Mem) (cur:Ob) (ck cc:Value),vs=[.int .i64 i]∧i≤ks.length∧M.le N∧cur.wt≤1000000000∧OV N.A N.w (obV cur ck cc) cur∧Dk.path d (Dk.follow d o) ks=Dk.path d cur (ks.drop i)∧OwnS M.A w W [obE b4 ob0 nilS nilS,obE b3 cur ck cc,dcE b2 d vi tk tc,.mem N]) (fun vs _=>ks.length - n0 vs)
  ⟨0,N,Dk.follow d o,yk,yc,rfl,by omega,hle,Dk.follow_wt hd hw,hy,by rw[List.drop_zero],ho⟩ ?_
 clear ho;rintro vs w6 ⟨i,N,cur,ck,cc,rfl,hi,hle,hcw,hc,he,ho⟩ _;simp only[S_docs_Path_0,gd,rs];by_cases hlt:(i:Int) < (ks.length:Int)
 ·have hi':i < ks.length:=by omega
  simp only[hlt,decide_true,i_t];obtain⟨p,hr⟩:=str_at hk hi';obtain⟨r1,r2⟩:=hr w6 (Mem.has_of hle (ho.hasM 3 rfl));refine do_eq r1 |>.mpr (do_eq r2 |>.mpr ?_);rw[ob_v ho 1 rfl];refine c_mem ho 3 rfl (vget_ret cur _ ks[i] N w6 (by omega) (ho.hasM 3 rfl) hc) ?_;rintro _ N2 w7 hle2 ⟨t,rfl,ht⟩ ho;obtain⟨tk',tc',rfl,ht⟩:=getD_ov ht;simp only[getV,ex];refine o_oba ho fun b6 w8 ho=>?_;refine ob_put 0 ht.oneK ht.oneC ho rfl fun w9 ho=>?_;cases hg:Vl.get cur ks[i] with
 |none=>
   rw[Dk.path_none d cur hi' hg] at he;simp only[rs,Option.isSome_none,Bool.not_false];rw[m_ob0];refine ob_put 1 rfl rfl ho rfl fun w10 ho=>?_;exact ret_obi 1 ho rfl (hK _ _ N2 _ 4 ho rfl (hle.trans hle2) (by rw[he];exact ob0_ov N2))
 |some x=>
   rw[Dk.path_some d cur hi' hg] at he;rw[hg] at ht ho;have hxw:=Vl.got_wt hg;simp only[rs,Option.isSome_some,Bool.not_true];rw[dc_v ho 3 rfl,ob_v ho 0 rfl];refine c_mem ho 4 rfl (dfollow_ret d x _ _ N2 w9 hd (by omega) (ho.hasM 4 rfl) ((hda.le (hle.trans hle2)).dv) ht) fun y N3 w10 hle3 hy ho=>?_;obtain⟨yk,yc,ycs,rfl,hya⟩:=hy.open;refine ob_put 2 hya.keys.one hya.kids.one ho rfl fun w11 ho=>?_;rw[wrap64_id (by omega) (by omega)];exact nextX ⟨i+1,N3,Dk.follow d x,yk,yc,rfl,by omega,(hle.trans hle2).trans hle3,Dk.follow_wt hd (by omega),hy,he,ho.tail⟩ (by simp[n0,RowKit.intOf];omega)
 ·simp only[hlt,decide_false,i_f];rw[List.drop_eq_nil_of_le (by omega)] at he;rw[ob_v ho 1 rfl];refine ob_put 0 hc.oneK hc.oneC ho rfl fun w7 ho=>?_;exact ret_obi 0 ho rfl (hK _ _ N _ 3 ho rfl hle (by rw[he];exact hc))
theorem rpath_ret (d:Dc)(o:Ob)(ks:List (List UInt8))(dv v kv:Value)(M:Mem)(w:World)(hd:Dk.Ok d)(hw:o.wt≤1000000000)(hl:ks.length≤1000000000)(hM:M.has w)(hdv:DV M.A M.w dv d)(hv:OV M.A M.w v o)(hk:SlA M.A M.w kv 1 ks.length (strsV ks)) :
  RetM prog 122 #[dv,v,kv] M w (fun r N=>OV N.A N.w r (Dk.path d (Dk.follow d o) ks)):=by
 obtain⟨vk,vc,ocs,rfl,ha⟩:=hv.open;obtain⟨vi,tk,tc,cs,rfl,hda⟩:=hdv;refine retM_of hM fun K hK=>S_foliantref19_Path_ok ?_;unfold S_foliantref19_Path;refine o_dcb d hda.items.one hda.trailer.oneK hda.trailer.oneC (OwnS.memS hM) fun b2 w1 ho=>?_;refine o_obb o ha.keys.one ha.kids.one ho fun b3 w2 ho=>?_;refine o_oba ho fun b4 w3 ho=>?_;rw[dc_v ho 2 rfl,ob_v ho 1 rfl];refine c_mem ho 3 rfl (rfollow_ret d o _ _ M w3 hd (ho.hasM 3 rfl) hda.dv hv) fun y N w4 hle hy ho=>?_;obtain⟨yk,yc,ycs,rfl,hya⟩:=hy.open;refine ob_put 1 hya.keys.one hya.kids.one ho rfl fun w5 ho=>?_;rw[sl_len Tryz.underlying23 (hk.now (Mem.has_of hle (ho.hasM 3 rfl)))];refine loop (fun vs W=>∃(i:Nat) (N:Mem) (cur:Ob) (ck cc:Value),vs=[.int .i64 i]∧i≤ks.length∧M.le N∧cur.wt≤1000000000∧OV N.A N.w (obV cur ck cc) cur∧Dk.path d (Dk.follow d o) ks=Dk.path d cur (ks.drop i)∧OwnS M.A w W [obE b4 ob0 nilS nilS,obE b3 cur ck cc,dcE b2 d vi tk tc,.mem N]) (fun vs _=>ks.length - n0 vs)
  ⟨0,N,Dk.follow d o,yk,yc,rfl,by omega,hle,Dk.follow_wt hd hw,hy,by rw[List.drop_zero],ho⟩ ?_
 clear ho;rintro vs w6 ⟨i,N,cur,ck,cc,rfl,hi,hle,hcw,hc,he,ho⟩ _;simp only[S_foliantref19_Path_0,gd,rs];by_cases hlt:(i:Int) < (ks.length:Int)
 ·have hi':i < ks.length:=by omega
  simp only[hlt,decide_true,i_t];obtain⟨p,hr⟩:=str_at hk hi';obtain⟨r1,r2⟩:=hr w6 (Mem.has_of hle (ho.hasM 3 rfl));refine do_eq r1 |>.mpr (do_eq r2 |>.mpr ?_);rw[ob_v ho 1 rfl];refine c_mem ho 3 rfl (rget_ret cur _ ks[i] N w6 (by omega) (ho.hasM 3 rfl) hc) ?_;rintro _ N2 w7 hle2 ⟨t,rfl,ht⟩ ho;obtain⟨tk',tc',rfl,ht⟩:=getD_ov ht;simp only[getV,ex];refine o_oba ho fun b6 w8 ho=>?_;refine ob_put 0 ht.oneK ht.oneC ho rfl fun w9 ho=>?_;cases hg:Vl.get cur ks[i] with
 |none=>
   rw[Dk.path_none d cur hi' hg] at he;simp only[rs,Option.isSome_none,Bool.not_false];rw[m_ob0];refine ob_put 1 rfl rfl ho rfl fun w10 ho=>?_;exact ret_obi 1 ho rfl (hK _ _ N2 _ 4 ho rfl (hle.trans hle2) (by rw[he];exact ob0_ov N2))
 |some x=>
   rw[Dk.path_some d cur hi' hg] at he;rw[hg] at ht ho;have hxw:=Vl.got_wt hg;simp only[rs,Option.isSome_some,Bool.not_true];rw[dc_v ho 3 rfl,ob_v ho 0 rfl];refine c_mem ho 4 rfl (rfollow_ret d x _ _ N2 w9 hd (ho.hasM 4 rfl) ((hda.le (hle.trans hle2)).dv) ht) fun y N3 w10 hle3 hy ho=>?_;obtain⟨yk,yc,ycs,rfl,hya⟩:=hy.open;refine ob_put 2 hya.keys.one hya.kids.one ho rfl fun w11 ho=>?_;rw[wrap64_id (by omega) (by omega)];exact nextX ⟨i+1,N3,Dk.follow d x,yk,yc,rfl,by omega,(hle.trans hle2).trans hle3,Dk.follow_wt hd (by omega),hy,he,ho.tail⟩ (by simp[n0,RowKit.intOf];omega)
 ·simp only[hlt,decide_false,i_f];rw[List.drop_eq_nil_of_le (by omega)] at he;rw[ob_v ho 1 rfl];refine ob_put 0 hc.oneK hc.oneC ho rfl fun w7 ho=>?_;exact ret_obi 0 ho rfl (hK _ _ N _ 3 ho rfl hle (by rw[he];exact hc))
end
section
open Eng Go.RowKit
theorem contains_ret (va:Value)(l:List (List UInt8))(x:List UInt8)(w:World)(ha:Sl w va 1 l.length (strsV l))(hl:l.length≤1099511627776) :
  Ret prog 118 #[va,.string ⟨x.toArray⟩] w (fun v w'=>v=.bool (decide (x∈l))∧w=w'):=by
 refine ret_of fun K hK=>S_slices_Contains_string_string_ok ?_;unfold S_slices_Contains_string_string;refine c_eq (sindex_ret va l x w ha hl) ?_;by_cases h:l.idxOf x < l.length
 ·rw[if_pos h];simp only[rs];refine hK _ _ ⟨?_,rfl⟩;have hm:x∈l:=List.idxOf_lt_length_iff.1 h;rw[decide_eq_true hm,decide_eq_true (by omega)]
 ·rw[if_neg h];simp only[rs];refine hK _ _ ⟨?_,rfl⟩;have hm:x ∉ l:=fun hm=>h (List.idxOf_lt_length_iff.2 hm);rw[decide_eq_false hm,decide_eq_false (by omega)]
def Dk.knownL:List (List UInt8):=[Dk.idK,Dk.infoK,Dk.rootK]
theorem Dk.known_mem (k:List UInt8):decide (k∈Dk.knownL)=Dk.known k:=by
 rw[Bool.eq_iff_iff];simp[Dk.knownL,Dk.known,or_assoc]
theorem known_ret (M:Mem)(w:World)(hM:M.has w):RetM prog 119 #[] M w (fun r N=>SlA N.A N.w r 1 3 (strsV Dk.knownL)):=by
 refine retM_of hM fun K hK=>S_docs_known_ok ?_;unfold S_docs_known;refine o_new (fun b=>.slice (some ⟨b,0,none⟩) 3 3) (strsV Dk.knownL) 9 (fun _=>by kernel_rfl) (OwnS.memS hM) fun b w1 ho=>?_;obtain⟨N,hle,hrow,ho⟩:=OwnS.freezeU (L:=[.mem M]) (ho.toU 1 3 3 (by decide) (by omega) (by omega)) 0 rfl;exact hK _ _ N _ 0 ho rfl hle hrow
theorem Dk.trail_keys (d:Dc)(hc:Vl.check 1 d.trailer=0)(h7:d.trailer.k=7)(h:d.trailer.keys.all Dk.known=false):Dk.trail d=3:=by
 unfold Dk.trail;rw[if_neg (by simp[hc]),if_neg (by simp[h7]),if_pos h]
theorem Dk.trail_end (d:Dc)(hc:Vl.check 1 d.trailer=0)(h7:d.trailer.k=7)(h:d.trailer.keys.all Dk.known=true):Dk.trail d=if (Dk.root d).k≠8∨(Dk.follow d (Dk.root d)).k≠7 then 22 else 0:=by
 unfold Dk.trail;rw[if_neg (by simp[hc]),if_neg (by simp[h7]),if_neg (by simp[h])]
theorem Dk.all_false {l:List (List UInt8)}{i:Nat}(hi:i < l.length)(h:Dk.known l[i]=false):l.all Dk.known=false:=by
 rw[List.all_eq_false];exact⟨l[i],List.getElem_mem hi,by simp[h]⟩
theorem Dk.all_true {l:List (List UInt8)}{i:Nat}(hi:l.length≤i)(h:∀m (hm:m < l.length),m < i→Dk.known l[m]=true):l.all Dk.known=true:=by
 rw[List.all_eq_true];intro x hx;obtain⟨m,hm,rfl⟩:=List.getElem_of_mem hx;exact h m hm (by omega)
theorem dtrail_ret (d:Dc)(dv:Value)(M:Mem)(w:World)(hd:Dk.Ok d)(hM:M.has w)(hdv:DV M.A M.w dv d) :
  RetM prog 90 #[dv] M w (fun r _=>r=.int .i64 (Dk.trail d)):=by
 obtain⟨vi,tk,tc,cs,rfl,hda⟩:=hdv;obtain⟨ocs,hta⟩:=hda.trailer.slices;have htw:=hd.trailer;have hkt:Pl.tot d.trailer.keys≤1000000000:=by have:=d.trailer.wt_eq;omega
 have hkl:=Pl.length_tot d.trailer.keys;refine retM_of hM fun K hK=>S_docs_trail_ok ?_;unfold S_docs_trail;refine o_dcb d hda.items.one hda.trailer.oneK hda.trailer.oneC (OwnS.memS hM) fun b w1 ho=>?_;rw[fa_d1,dc_tr ho 0 rfl];refine c_below ho (R:=fun v=>v=.int .i64 (Vl.check 1 d.trailer)) (vCheck_ret d.trailer _ w1 (OV.inw (ho.hasM 1 rfl) hda.trailer) (by omega)) ?_;rintro _ w2 rfl ho;simp only[n_err];by_cases hc:Vl.check 1 d.trailer=0
 case neg=>
  simp only[hc,ne_eq,not_false_eq_true,decide_true,i_t];exact hK _ _ M _ 1 ho rfl M.le_refl (by unfold Dk.trail;rw[if_pos hc])
 simp only[hc,ne_eq,not_true,decide_false,i_f];rw[fa_d1,fa_o0,dc_trk ho 0 rfl];simp only[rs];by_cases h7:d.trailer.k=7
 case neg=>
  simp only[h7,ne_eq,not_false_eq_true,decide_true,i_t];exact hK _ _ M _ 1 ho rfl M.le_refl (by unfold Dk.trail;rw[if_neg (by simp[hc]),if_pos h7])
 simp only[h7,ne_eq,not_true,decide_false,i_f];rw[fa_d1,fa_o4,dc_trkeys ho 0 rfl,sl_len Tryz.underlying23 (hta.keys.now (ho.hasM 1 rfl))];refine loop (fun vs W=>∃(i:Nat) (N:Mem),vs=[.int .i64 i]∧i≤d.trailer.keys.length∧M.le N∧(∀m (hm:m < d.trailer.keys.length),m < i→Dk.known d.trailer.keys[m]=true)∧OwnS M.A w W [dcE b d vi tk tc,.mem N]) (fun vs _=>d.trailer.keys.length - n0 vs)
  ⟨0,M,rfl,by omega,M.le_refl,fun m _ h=>by omega,ho⟩ ?_
 clear ho;rintro vs w3 ⟨i,N,rfl,hi,hle,hlo,ho⟩ _;simp only[S_docs_trail_0,gd,rs];by_cases hlt:(i:Int) < (d.trailer.keys.length:Int)
 ·have hi':i < d.trailer.keys.length:=by omega
  simp only[hlt,decide_true,i_t];obtain⟨p,hr⟩:=str_at hta.keys hi';obtain⟨r1,r2⟩:=hr w3 (Mem.has_of hle (ho.hasM 1 rfl));refine do_eq r1 |>.mpr (do_eq r2 |>.mpr ?_);refine c_mem ho 1 rfl (known_ret N w3 (ho.hasM 1 rfl)) fun y N2 w4 hle2 hy ho=>?_;refine c_eq (contains_ret y Dk.knownL d.trailer.keys[i] w4 (hy.now (ho.hasM 1 rfl)) (by decide)) ?_;rw[Dk.known_mem];cases hk:Dk.known d.trailer.keys[i] with
 |false=>
   simp only[rs,Bool.not_false];exact hK _ _ N2 _ 1 ho rfl (hle.trans hle2) (by rw[Dk.trail_keys d hc h7 (Dk.all_false hi' hk)])
 |true=>
   simp only[rs,Bool.not_true];rw[wrap64_id (by omega) (by omega)];refine nextX ⟨i+1,N2,rfl,by omega,hle.trans hle2,fun m hm hmi=>?_,ho⟩ (by simp[n0,RowKit.intOf];omega);rcases Nat.lt_or_ge m i with h|h
   ·exact hlo m hm h
   ·have:m=i:=by omega
    subst this;exact hk
 ·simp only[hlt,decide_false,i_f];have he:=Dk.trail_end d hc h7 (Dk.all_true (by omega) hlo);rw[fa_d1,dc_tr ho 0 rfl];refine c_mem ho 1 rfl (vget_ret d.trailer _ Dk.rootK N w3 (by omega) (ho.hasM 1 rfl) (hda.trailer.le hle)) ?_;rintro _ N2 w4 hle2 ⟨t,rfl,ht⟩ ho;obtain⟨xk,xc,rfl,ht⟩:=getD_ov ht;have hrw:(Dk.root d).wt≤1000000000:=by have:=Vl.get_wt (o:=d.trailer) (key:=Dk.rootK);unfold Dk.root;omega
  rw[show (Vl.get d.trailer Dk.rootK).getD Vl.ob0=Dk.root d from rfl] at ht ⊢;simp only[getV,ex];refine o_oba ho fun b6 w5 ho=>?_;refine ob_put 0 ht.oneK ht.oneC ho rfl fun w6 ho=>?_;rw[fa_o0,ob_k ho 0 rfl];simp only[rs];by_cases h8:(Dk.root d).k=8
  case neg=>
   simp only[h8,ne_eq,not_false_eq_true,decide_true,rs,g_un];exact hK _ _ N2 _ 2 ho rfl (hle.trans hle2) (by rw[he,if_pos (Or.inl h8)])
  simp only[h8,ne_eq,not_true,decide_false,rs];rw[dc_v ho 1 rfl,ob_v ho 0 rfl];refine c_mem ho 2 rfl (dfollow_ret d (Dk.root d) _ _ N2 w6 hd hrw (ho.hasM 2 rfl) ((hda.le (hle.trans hle2)).dv) ht) fun y N3 w7 hle3 hy ho=>?_;obtain⟨yk,yc,ycs,rfl,hya⟩:=hy.open;rw[fld_k];simp only[rs];by_cases hf:(Dk.follow d (Dk.root d)).k=7
  ·simp only[hf,ne_eq,not_true,decide_false,rs];exact hK _ _ N3 _ 2 ho rfl ((hle.trans hle2).trans hle3) (by rw[he,if_neg (by simp[h8,hf])])
  ·simp only[hf,ne_eq,not_false_eq_true,decide_true,rs];exact hK _ _ N3 _ 2 ho rfl ((hle.trans hle2).trans hle3) (by rw[he,if_pos (Or.inr hf)])
theorem rtrail_ret (d:Dc)(dv:Value)(M:Mem)(w:World)(hd:Dk.Ok d)(hM:M.has w)(hdv:DV M.A M.w dv d) :
  RetM prog 81 #[dv] M w (fun r _=>r=.int .i64 (Dk.trail d)):=by
 obtain⟨vi,tk,tc,cs,rfl,hda⟩:=hdv;obtain⟨ocs,hta⟩:=hda.trailer.slices;have htw:=hd.trailer;have hkt:Pl.tot d.trailer.keys≤1000000000:=by have:=d.trailer.wt_eq;omega
 have hkl:=Pl.length_tot d.trailer.keys;refine retM_of hM fun K hK=>S_foliantref19_trail_ok ?_;unfold S_foliantref19_trail;refine o_dcb d hda.items.one hda.trailer.oneK hda.trailer.oneC (OwnS.memS hM) fun b w1 ho=>?_;rw[fa_d1,dc_tr ho 0 rfl];refine o_oba ho fun b3 w2 ho=>?_;refine ob_put 0 hda.trailer.oneK hda.trailer.oneC ho rfl fun w3 ho=>?_;rw[ob_v ho 0 rfl];refine c_below ho (R:=fun v=>v=.int .i64 (Vl.check 1 d.trailer)) (rCheck05_ret d.trailer _ w3 (OV.inw (ho.hasM 2 rfl) hda.trailer) (by omega)) ?_;rintro _ w2 rfl ho;simp only[n_err];by_cases hc:Vl.check 1 d.trailer=0
 case neg=>
  simp only[hc,ne_eq,not_false_eq_true,decide_true,i_t];exact hK _ _ M _ 2 ho rfl M.le_refl (by unfold Dk.trail;rw[if_pos hc])
 simp only[hc,ne_eq,not_true,decide_false,i_f];rw[fa_o0,ob_k ho 0 rfl];simp only[rs];by_cases h7:d.trailer.k=7
 case neg=>
  simp only[h7,ne_eq,not_false_eq_true,decide_true,i_t];exact hK _ _ M _ 2 ho rfl M.le_refl (by unfold Dk.trail;rw[if_neg (by simp[hc]),if_pos h7])
 simp only[h7,ne_eq,not_true,decide_false,i_f];rw[fa_o4,ob_keys ho 0 rfl,sl_len Tryz.underlying23 (hta.keys.now (ho.hasM 2 rfl))];refine loop (fun vs W=>∃(i:Nat),vs=[.int .i64 i]∧i≤d.trailer.keys.length∧(∀m (hm:m < d.trailer.keys.length),m < i→Dk.known d.trailer.keys[m]=true)∧OwnS M.A w W [obE b3 d.trailer tk tc,dcE b d vi tk tc,.mem M]) (fun vs _=>d.trailer.keys.length - n0 vs)
  ⟨0,rfl,by omega,fun m _ h=>by omega,ho⟩ ?_
 clear ho;rintro vs w3 ⟨i,rfl,hi,hlo,ho⟩ _;simp only[S_foliantref19_trail_0,gd,rs];by_cases hlt:(i:Int) < (d.trailer.keys.length:Int)
 ·have hi':i < d.trailer.keys.length:=by omega
  simp only[hlt,decide_true,i_t];obtain⟨p,hr⟩:=str_at hta.keys hi';obtain⟨r1,r2⟩:=hr w3 (ho.hasM 2 rfl);refine do_eq r1 |>.mpr (do_eq r2 |>.mpr ?_);have d1:Dk.idK=[73,68]:=rfl;have d2:Dk.infoK=[73,110,102,111]:=rfl;have d3:Dk.rootK=[82,111,111,116]:=rfl;have yes:Dk.known d.trailer.keys[i]=true→NextX (fun vs W=>∃(i:Nat),vs=[.int .i64 i]∧i≤d.trailer.keys.length∧(∀m (hm:m < d.trailer.keys.length),m < i→Dk.known d.trailer.keys[m]=true)∧OwnS M.A w W [obE b3 d.trailer tk tc,dcE b d vi tk tc,.mem M]) (fun vs _=>d.trailer.keys.length - n0 vs) [.int .i64 (i:Int)] w3 [.int .i64 (IntKind.wrap .i64 ((i:Int)+1))] w3:=by
   intro hk;rw[wrap64_id (by omega) (by omega)];refine nextX ⟨i+1,rfl,by omega,fun m hm hmi=>?_,ho⟩ (by simp[n0,RowKit.intOf];omega);rcases Nat.lt_or_ge m i with h|h
   ·exact hlo m hm h
   ·have:m=i:=by omega
    subst this;exact hk
  simp only[rs];by_cases k1:d.trailer.keys[i]=[73,68]
  ·simp only[k1,ne_eq,not_true,decide_false,rs,g_un];exact yes (by simp[Dk.known,k1,d1])
  simp only[k1,ne_eq,not_false_eq_true,decide_true,rs];by_cases k2:d.trailer.keys[i]=[73,110,102,111]
  ·simp only[k2,ne_eq,not_true,decide_false,rs,g_un];exact yes (by simp[Dk.known,k2,d2])
  simp only[k2,ne_eq,not_false_eq_true,decide_true,rs];by_cases k3:d.trailer.keys[i]=[82,111,111,116]
  ·simp only[k3,ne_eq,not_true,decide_false,rs,g_un];exact yes (by simp[Dk.known,k3,d3])
  simp only[k3,ne_eq,not_false_eq_true,decide_true,rs];have hk:Dk.known d.trailer.keys[i]=false:=by simp[Dk.known,k1,k2,k3,d1,d2,d3]
  exact hK _ _ M _ 2 ho rfl M.le_refl (by rw[Dk.trail_keys d hc h7 (Dk.all_false hi' hk)])
 ·simp only[hlt,decide_false,i_f];have he:=Dk.trail_end d hc h7 (Dk.all_true (by omega) hlo);rw[ob_v ho 0 rfl];refine c_mem ho 2 rfl (rget_ret d.trailer _ Dk.rootK M w3 (by omega) (ho.hasM 2 rfl) hda.trailer) ?_;rintro _ N2 w4 hle2 ⟨t,rfl,ht⟩ ho;obtain⟨xk,xc,rfl,ht⟩:=getD_ov ht;rw[show (Vl.get d.trailer Dk.rootK).getD Vl.ob0=Dk.root d from rfl] at ht ⊢;simp only[getV,ex];refine o_oba ho fun b6 w5 ho=>?_;refine ob_put 0 ht.oneK ht.oneC ho rfl fun w6 ho=>?_;rw[fa_o0,ob_k ho 0 rfl];simp only[rs];by_cases h8:(Dk.root d).k=8
  case neg=>
   simp only[h8,ne_eq,not_false_eq_true,decide_true,rs,g_un];exact hK _ _ N2 _ 3 ho rfl hle2 (by rw[he,if_pos (Or.inl h8)])
  simp only[h8,ne_eq,not_true,decide_false,rs];rw[dc_v ho 2 rfl,ob_v ho 0 rfl];refine c_mem ho 3 rfl (rfollow_ret d (Dk.root d) _ _ N2 w6 hd (ho.hasM 3 rfl) ((hda.le hle2).dv) ht) fun y N3 w7 hle3 hy ho=>?_;obtain⟨yk,yc,ycs,rfl,hya⟩:=hy.open;rw[fld_k];simp only[rs];by_cases hf:(Dk.follow d (Dk.root d)).k=7
  ·simp only[hf,ne_eq,not_true,decide_false,rs];exact hK _ _ N3 _ 3 ho rfl (hle2.trans hle3) (by rw[he,if_neg (by simp[h8,hf])])
  ·simp only[hf,ne_eq,not_false_eq_true,decide_true,rs];exact hK _ _ N3 _ 3 ho rfl (hle2.trans hle3) (by rw[he,if_pos (Or.inr hf)])
theorem dcheck_ret (d:Dc)(dv:Value)(M:Mem)(w:World)(hd:Dk.Ok d)(hM:M.has w)(hdv:DV M.A M.w dv d) :
  RetM prog 64 #[dv] M w (fun r _=>r=.int .i64 (Dk.check d)):=by
 obtain⟨vi,tk,tc,cs,rfl,hda⟩:=hdv;refine retM_of hM fun K hK=>S_docs_Check_ok ?_;unfold S_docs_Check;refine o_dcb d hda.items.one hda.trailer.oneK hda.trailer.oneC (OwnS.memS hM) fun b w1 ho=>?_;rw[fa_d0,dc_items ho 0 rfl];refine c_below ho (R:=fun v=>v=.int .i64 (Dk.itemsG none d.items)) (RetM.told (ditems_ret d.items vi cs M w1 hd.len (fun i hi=>by have:=hd.items i hi;omega) (ho.hasM 1 rfl) hda.items hda.all)) ?_;rintro _ w2 rfl ho;simp only[n_err];by_cases hc:Dk.itemsG none d.items=0
 case neg=>
  simp only[hc,ne_eq,not_false_eq_true,decide_true,i_t];exact hK _ _ M _ 1 ho rfl M.le_refl (by unfold Dk.check;rw[if_pos hc])
 simp only[hc,ne_eq,not_true,decide_false,i_f];rw[dc_v ho 0 rfl];refine c_below ho (R:=fun v=>v=.int .i64 (Dk.trail d)) (RetM.told (dtrail_ret d _ M w2 hd (ho.hasM 1 rfl) hda.dv)) ?_;rintro _ w3 rfl ho;exact hK _ _ M _ 1 ho rfl M.le_refl (by unfold Dk.check;rw[if_neg (by simp[hc])])
theorem rcheck_ret (d:Dc)(dv:Value)(M:Mem)(w:World)(hd:Dk.Ok d)(hM:M.has w)(hdv:DV M.A M.w dv d) :
  RetM prog 49 #[dv] M w (fun r _=>r=.int .i64 (Dk.check d)):=by
 obtain⟨vi,tk,tc,cs,rfl,hda⟩:=hdv;refine retM_of hM fun K hK=>S_foliantref19_Check_ok ?_;unfold S_foliantref19_Check;refine o_dcb d hda.items.one hda.trailer.oneK hda.trailer.oneC (OwnS.memS hM) fun b w1 ho=>?_;rw[fa_d0,dc_items ho 0 rfl];refine c_below ho (R:=fun v=>v=.int .i64 (Dk.itemsG none d.items)) (RetM.told (ritems_ret d.items vi cs M w1 hd.len (fun i hi=>by have:=hd.items i hi;omega) (ho.hasM 1 rfl) hda.items hda.all)) ?_;rintro _ w2 rfl ho;simp only[n_err];by_cases hc:Dk.itemsG none d.items=0
 case neg=>
  simp only[hc,ne_eq,not_false_eq_true,decide_true,i_t];exact hK _ _ M _ 1 ho rfl M.le_refl (by unfold Dk.check;rw[if_pos hc])
 simp only[hc,ne_eq,not_true,decide_false,i_f];rw[dc_v ho 0 rfl];refine c_below ho (R:=fun v=>v=.int .i64 (Dk.trail d)) (RetM.told (rtrail_ret d _ M w2 hd (ho.hasM 1 rfl) hda.dv)) ?_;rintro _ w3 rfl ho;exact hK _ _ M _ 1 ho rfl M.le_refl (by unfold Dk.check;rw[if_neg (by simp[hc])])
end
end Go.Proofs.YtoobidofdpdkbaaGreatDoor

namespace Go.Proofs.YtoobidofdpdkbaaGreatDoor
section
open Eng Go.RowKit
namespace Eng
def Ent.two (e f:Ent):Ent:=⟨fun k=>e.blk k∨f.blk k,fun w=>e.is w∧f.is w∧∀k,e.blk k→¬f.blk k,
 fun h k=>⟨e.keep h.1 fun b hb=>k b (.inl hb),f.keep h.2.1 fun b hb=>k b (.inr hb),h.2.2⟩,fun h k hk=>hk.elim (e.lt h.1 k) (f.lt h.2.1 k)⟩
section
variable {S:Nat→Prop}{w w0:World}{L:List Ent}
theorem OwnS.split {e f:Ent}(ho:OwnS S w0 w (.two e f::L)):OwnS S w0 w (e::f::L):=by
 obtain⟨⟨he,hf,hd⟩,hb⟩:=ho.all (.two e f) (by simp);obtain⟨a1,a2⟩:=List.pairwise_cons.1 ho.apart;refine⟨ho.grew,fun x hx=>?_,List.pairwise_cons.2 ⟨fun x hx k hk=>?_,List.pairwise_cons.2 ⟨fun x hx k hk=>a1 x hx k (.inr hk),a2⟩⟩⟩
 ·rcases List.mem_cons.1 hx with rfl|hx
  ·exact⟨he,fun k hk=>hb k (.inl hk)⟩
  rcases List.mem_cons.1 hx with rfl|hx
  ·exact⟨hf,fun k hk=>hb k (.inr hk)⟩
  ·exact ho.all x (List.mem_cons_of_mem _ hx)
 ·rcases List.mem_cons.1 hx with rfl|hx
  ·exact hd k hk
  ·exact a1 x hx k (.inl hk)
end
end Eng
section
variable {P:Program}{S:World→Prop}{K:Value→Prop}
theorem hd_do {m:Sem Next}(v:Value)(h:∀w,S w→m.run P w=.ok (.value v) w)(k:K v):HDo P S m K:=⟨v,h,k⟩
theorem hd_pure {m:Sem Next}(v:Value)(h:∀w,m.run P w=.ok (.value v) w)(k:K v):HDo P S m K:=⟨v,fun w _=>h w,k⟩
end
section
variable {w:World}{PK:PKT}{K:VWP}{S:Nat→Prop}{w0:World}{L:List Ent}
theorem ret_dc {K:Ending→World→Prop}{b:Nat}{d:Dc}{vi vk vc:Value}(i:Nat)(ho:OwnS S w0 w L)(hi:L[i]?=some (dcE b d vi vk vc))(k:K (.returned (dcV d vi vk vc)) w):RetX prog [.cell (.pointer (some ⟨b,0,none⟩)) 28] w K:=
 ret_v1 (rv_cell (ho.agg i hi aggDc)) k
end
end
end Go.Proofs.YtoobidofdpdkbaaGreatDoor


namespace Go.Proofs.YtoobidofdpdkbaaGreatDoor
section
open Eng Go.RowKit
def obs (l:List (Ob×Value)):List Value:=l.flatMap fun x=>obC x.1 nilS x.2
def kE (b:Nat):Ent:=.cells b (obs [(ob1 5 0 0 [120],nilS),(ob1 4 0 0 [121],nilS),(ob1 8 2 0 [],nilS)]) 26
section
variable {w W:World}{bL bK d:Nat}{a b:Option Nat}{PK:PKT}{K:VWP}
end
end
end Go.Proofs.YtoobidofdpdkbaaGreatDoor

namespace Go.Proofs.YtoobidofdpdkbaaGreatDoor
section
open Eng Go.RowKit Go.ChangeShapes Go.WideShapes Go.ChangeAt
set_option maxRecDepth 100000
section
variable {H:Type}{enc:TypeId×Value→H}{W:World}{sp:Nat→Bool}{held:Bool}
theorem bulk2 {d e:DataW H}(hk:Rows.uptoSmall H [d,e]=true):Rows.uptoBulk d≤1048576∧Rows.uptoBulk e≤1048576:=by
 have h:Rows.uptoBulkAll [d,e]≤1048576:=of_decide_eq_true hk;simp only[Rows.uptoBulkAll] at h;omega
end
end
section
open Eng
def S_foliantref05_Texts_0 (t0 t1 t12 t13:Value)(w:World)(N1:List Value→World→Prop)(K:Ending→World→Prop):Prop:=
 DoX prog (mBin .lss 3 t13 t12) w (pk K) fun t14 w=>
 IfX t14 (QuietX w (fun C2=>
 QDo prog C2 (mIA 23 t0 t13) fun t18=>
 QDo prog C2 (mLoad 9 t18) fun t19=>
 QDo prog C2 (mIA 23 t1 t13) fun t22=>
 QDo prog C2 (mLoad 9 t22) fun t23=>
 QDo prog C2 (mEq .neq 9 (.tmp 19) (.tmp 23) t19 t23) fun t24=>
 ∀w,C2 w →
 IfX t24 (K (.returned (.bool false)) w) (DoX prog (mBin .add 3 t13 (.int .i64 1)) w (pk K) fun t25 w=>
 N1 [t25] w))) (K (.returned (.bool true)) w)
def S_foliantref05_Texts (t0 t1:Value)(w:World)(K:Ending→World→Prop):Prop:=
 DoX prog (mB .len #[23] 3 #[false] #[t0]) w (pk K) fun t7 w=>
 DoX prog (mB .len #[23] 3 #[false] #[t1]) w (pk K) fun t9 w=>
 DoX prog (mEq .neq 3 (.tmp 7) (.tmp 9) t7 t9) w (pk K) fun t10 w=>
 IfX t10 (K (.returned (.bool false)) w) (DoX prog (mB .len #[23] 3 #[false] #[t0]) w (pk K) fun t12 w=>
 LoopX [(.int .i64 0)] w (fun vs1 w N1=>∀_:Sg,S_foliantref05_Texts_0 t0 t1 t12 (vs1.getD 0 undef) w N1 K))
theorem S_foliantref05_Texts_eq (t0 t1:Value)(w:World)(K:Ending→World→Prop):wpX prog 26 [] [(4,[13])] none (bodyOf Tryz.f76) (topQ prog [.tmp 4] K) (startX [t0,t1]) [] w=S_foliantref05_Texts t0 t1 w K:=by kernel_rfl
theorem S_foliantref05_Texts_ok {t0 t1:Value}{w:World}{K:Ending→World→Prop}(h:S_foliantref05_Texts t0 t1 w K):Calls prog 76 #[t0,t1] w K:=
 calls_of_wpX Tryz.func76 rfl rfl rfl rfl (Eq.mpr (S_foliantref05_Texts_eq t0 t1 w K) h)
end
section
open Eng Go.RowKit
theorem nStrT:notAgg prog 9=true:=by kernel_rfl
theorem rtexts_ret (va vb:Value)(la lb:List (List UInt8))(w:World)(ha:Sl w va 1 la.length (strsV la))(hb:Sl w vb 1 lb.length (strsV lb))(hl:la.length≤1099511627776) :
  Ret prog 76 #[va,vb] w (fun r w'=>r=.bool (decide (la=lb))∧Below w.heap.size w w'):=by
 refine ret_of fun K hK=>S_foliantref05_Texts_ok ?_;unfold S_foliantref05_Texts;rw[sl_len Tryz.underlying23 ha,sl_len Tryz.underlying23 hb];simp only[rs];by_cases hlen:(la.length:Int)≠(lb.length:Int)
 ·simp only[decide_eq_true hlen,i_t];have hne:la≠lb:=fun e=>hlen (by rw[e]);exact hK _ _ ⟨by rw[decide_eq_false hne],(Own.start w).done⟩
 have hle:la.length=lb.length:=by omega
 simp only[decide_eq_false hlen,i_f,sl_len Tryz.underlying23 ha];refine loop (fun vs w'=>∃(i:Nat),vs=[.int .i64 i]∧i≤la.length∧la.take i=lb.take i∧Own w w' []) (fun vs _=>la.length - n0 vs) ⟨0,rfl,by omega,by simp,Own.start w⟩ ?_;rintro vs w2 ⟨i,rfl,hi,he,ho⟩ _;simp only[S_foliantref05_Texts_0,gd,rs];by_cases hlt:(i:Int) < (la.length:Int)
 ·have h1:i < la.length:=by omega
  have h2:i < lb.length:=by omega
  simp only[hlt,decide_true,rs];obtain⟨ba,oa,ca,rfl,hca⟩:=sl_open ha (by omega);obtain⟨bb,ob,cb,rfl,hcb⟩:=sl_open hb (by omega);refine quiet (q_do _ (fun _=>run_ia Tryz.underlying23 (show _=some 1 by kernel_rfl) (by omega) (by omega)) ?_);refine q_at (.string ⟨(la[i]).toArray⟩) (fun wc hw=>run_load_cell nStrT ((ho.grow hw).old ?_)) ?_
  ·rw[Int.toNat_natCast,Nat.mul_one];exact hca i _ (strsV_get h1)
  refine q_do _ (fun _=>run_ia Tryz.underlying23 (show _=some 1 by kernel_rfl) (by omega) (by omega)) ?_;refine q_at (.string ⟨(lb[i]).toArray⟩) (fun wc hw=>run_load_cell nStrT ((ho.grow hw).old ?_)) ?_
  ·rw[Int.toNat_natCast,Nat.mul_one];exact hcb i _ (strsV_get h2)
  refine q_sne ?_;intro w3 hw;have ho:=ho.grow hw;by_cases hq:la[i]=lb[i]
  ·simp only[hq,ne_eq,not_true,decide_false,i_f,rs];rw[wrap64_id (by omega) (by omega)];refine nextX ⟨i+1,rfl,by omega,?_,ho⟩ (by simp[n0,RowKit.intOf];omega);rw[List.take_succ_eq_append_getElem h1,List.take_succ_eq_append_getElem h2,he,hq]
  ·simp only[hq,ne_eq,not_false_eq_true,decide_true,i_t];have hne:la≠lb:=fun e=>hq (by subst e;rfl);exact hK _ _ ⟨by rw[decide_eq_false hne],ho.done⟩
 ·simp only[hlt,decide_false,rs,g_un];have hab:la=lb:=by
   rw[List.take_of_length_le (by omega),List.take_of_length_le (by omega)] at he;exact he
  exact hK _ _ ⟨by rw[decide_eq_true hab],ho.done⟩
end
section
open Eng
def S_foliantref05_Same (t0 t1:Value)(w:World)(K:Ending→World→Prop):Prop:=
 DoX prog (mBox 26 t0) w (pk K) fun t2 w=>
 DoX prog (mBox 26 t1) w (pk K) fun t3 w=>
 DoX prog (mFA 26 t2 0) w (pk K) fun t5 w=>
 DoX prog (mLoad 3 t5) w (pk K) fun t6 w=>
 DoX prog (mFA 26 t3 0) w (pk K) fun t7 w=>
 DoX prog (mLoad 3 t7) w (pk K) fun t8 w=>
 DoX prog (mEq .eql 3 (.tmp 6) (.tmp 8) t6 t8) w (pk K) fun t9 w=>
 GDo t9 true (fun E=>DoX prog (mFA 26 t2 1) w (pk K) E) w fun t11 w=>
 GDo t9 true (fun E=>DoX prog (mLoad 2 t11) w (pk K) E) w fun t12 w=>
 GDo t9 true (fun E=>DoX prog (mFA 26 t3 1) w (pk K) E) w fun t13 w=>
 GDo t9 true (fun E=>DoX prog (mLoad 2 t13) w (pk K) E) w fun t14 w=>
 GDo t9 true (fun E=>DoX prog (mEq .eql 2 (.tmp 12) (.tmp 14) t12 t14) w (pk K) E) w fun t15 w=>
 DoX prog (mPick t9 t15 (.bool false)) w (pk K) fun t16 w=>
 GDo t16 true (fun E=>DoX prog (mFA 26 t2 2) w (pk K) E) w fun t18 w=>
 GDo t16 true (fun E=>DoX prog (mLoad 3 t18) w (pk K) E) w fun t19 w=>
 GDo t16 true (fun E=>DoX prog (mFA 26 t3 2) w (pk K) E) w fun t20 w=>
 GDo t16 true (fun E=>DoX prog (mLoad 3 t20) w (pk K) E) w fun t21 w=>
 GDo t16 true (fun E=>DoX prog (mEq .eql 3 (.tmp 19) (.tmp 21) t19 t21) w (pk K) E) w fun t22 w=>
 DoX prog (mPick t16 t22 (.bool false)) w (pk K) fun t23 w=>
 GDo t23 true (fun E=>DoX prog (mFA 26 t2 3) w (pk K) E) w fun t25 w=>
 GDo t23 true (fun E=>DoX prog (mLoad 9 t25) w (pk K) E) w fun t26 w=>
 GDo t23 true (fun E=>DoX prog (mFA 26 t3 3) w (pk K) E) w fun t27 w=>
 GDo t23 true (fun E=>DoX prog (mLoad 9 t27) w (pk K) E) w fun t28 w=>
 GDo t23 true (fun E=>DoX prog (mEq .eql 9 (.tmp 26) (.tmp 28) t26 t28) w (pk K) E) w fun t29 w=>
 DoX prog (mPick t23 t29 (.bool false)) w (pk K) fun t30 w=>
 GDo t30 true (fun E=>DoX prog (mFA 26 t2 4) w (pk K) E) w fun t32 w=>
 GDo t30 true (fun E=>DoX prog (mLoad 23 t32) w (pk K) E) w fun t33 w=>
 GDo t30 true (fun E=>DoX prog (mFA 26 t3 4) w (pk K) E) w fun t34 w=>
 GDo t30 true (fun E=>DoX prog (mLoad 23 t34) w (pk K) E) w fun t35 w=>
 GDo t30 true (fun E=>CallX prog 76 #[t33,t35] w (pk K) E) w fun t36 w=>
 DoX prog (mPick t30 t36 (.bool false)) w (pk K) fun t37 w=>
 GDo t37 true (fun E=>DoX prog (mFA 26 t2 5) w (pk K) E) w fun t39 w=>
 GDo t37 true (fun E=>DoX prog (mLoad 24 t39) w (pk K) E) w fun t40 w=>
 GDo t37 true (fun E=>DoX prog (mFA 26 t3 5) w (pk K) E) w fun t41 w=>
 GDo t37 true (fun E=>DoX prog (mLoad 24 t41) w (pk K) E) w fun t42 w=>
 GDo t37 true (fun E=>CallX prog 77 #[t40,t42] w (pk K) E) w fun t43 w=>
 DoX prog (mPick t37 t43 (.bool false)) w (pk K) fun t44 w=>
 K (.returned t44) w
theorem S_foliantref05_Same_eq (t0 t1:Value)(w:World)(K:Ending→World→Prop):wpX prog 45 [] [] none (bodyOf Tryz.f44) (topQ prog [.tmp 4] K) (startX [t0,t1]) [] w=S_foliantref05_Same t0 t1 w K:=by kernel_rfl
theorem S_foliantref05_Same_ok {t0 t1:Value}{w:World}{K:Ending→World→Prop}(h:S_foliantref05_Same t0 t1 w K):Calls prog 44 #[t0,t1] w K:=
 calls_of_wpX Tryz.func44 rfl rfl rfl rfl (Eq.mpr (S_foliantref05_Same_eq t0 t1 w K) h)
def S_foliantref05_List_0 (t0 t1 t12 t13:Value)(w:World)(N1:List Value→World→Prop)(K:Ending→World→Prop):Prop:=
 DoX prog (mBin .lss 3 t13 t12) w (pk K) fun t14 w=>
 IfX t14 (QuietX w (fun C2=>
 QDo prog C2 (mIA 24 t0 t13) fun t18=>
 QDo prog C2 (mLoad 26 t18) fun t19=>
 QDo prog C2 (mIA 24 t1 t13) fun t22=>
 QDo prog C2 (mLoad 26 t22) fun t23=>
 QCall prog C2 44 #[t19,t23] fun t24=>
 QDo prog C2 (mUn .not t24) fun t25=>
 ∀w,C2 w →
 IfX t25 (K (.returned (.bool false)) w) (DoX prog (mBin .add 3 t13 (.int .i64 1)) w (pk K) fun t26 w=>
 N1 [t26] w))) (K (.returned (.bool true)) w)
def S_foliantref05_List (t0 t1:Value)(w:World)(K:Ending→World→Prop):Prop:=
 DoX prog (mB .len #[24] 3 #[false] #[t0]) w (pk K) fun t7 w=>
 DoX prog (mB .len #[24] 3 #[false] #[t1]) w (pk K) fun t9 w=>
 DoX prog (mEq .neq 3 (.tmp 7) (.tmp 9) t7 t9) w (pk K) fun t10 w=>
 IfX t10 (K (.returned (.bool false)) w) (DoX prog (mB .len #[24] 3 #[false] #[t0]) w (pk K) fun t12 w=>
 LoopX [(.int .i64 0)] w (fun vs1 w N1=>∀_:Sg,S_foliantref05_List_0 t0 t1 t12 (vs1.getD 0 undef) w N1 K))
theorem S_foliantref05_List_eq (t0 t1:Value)(w:World)(K:Ending→World→Prop):wpX prog 27 [] [(4,[13])] none (bodyOf Tryz.f77) (topQ prog [.tmp 4] K) (startX [t0,t1]) [] w=S_foliantref05_List t0 t1 w K:=by kernel_rfl
theorem S_foliantref05_List_ok {t0 t1:Value}{w:World}{K:Ending→World→Prop}(h:S_foliantref05_List t0 t1 w K):Calls prog 77 #[t0,t1] w K:=
 calls_of_wpX Tryz.func77 rfl rfl rfl rfl (Eq.mpr (S_foliantref05_List_eq t0 t1 w K) h)
end
end Go.Proofs.YtoobidofdpdkbaaGreatDoor




namespace Go.Proofs.YtoobidofdpdkbaaGreatDoor
section
open Eng Go.RowKit
namespace Ob
 mutual
def eqb:Ob→Ob→Bool
|.mk k n g s ks cs,b=>decide (k=b.k)&&decide (n=b.n)&&decide (g=b.g)&&decide (s=b.s)&&decide (ks=b.keys)&&eqbs cs b.kids
def eqbs:List Ob→List Ob→Bool
|[],[]=>true
|a::l,b::m=>eqb a b&&eqbs l m
|[],_::_=>false
|_::_,[]=>false
end
 mutual
theorem eqb_iff:∀a b:Ob,eqb a b=true↔a=b
|.mk k n g s ks cs,.mk k' n' g' s' ks' cs'=>by
  have ih:=eqbs_iff cs cs';rw[eqb];simp only[Bool.and_eq_true,decide_eq_true_eq];simp only[Ob.k,Ob.n,Ob.g,Ob.s,Ob.keys,Ob.kids,ih,Ob.mk.injEq,and_assoc]
theorem eqbs_iff:∀a b:List Ob,eqbs a b=true↔a=b
|[],[]=>by simp[eqbs]
|a::l,b::m=>by
  rw[eqbs,Bool.and_eq_true,eqb_iff a b,eqbs_iff l m];simp
|[],_::_=>by simp[eqbs]
|_::_,[]=>by simp[eqbs]
end
theorem eqb_eq (a b:Ob):eqb a b=(decide (a.k=b.k)&&decide (a.n=b.n)&&decide (a.g=b.g)&&decide (a.s=b.s)&&decide (a.keys=b.keys)&&eqbs a.kids b.kids):=by cases a;rw[eqb];rfl
theorem eqbs_drop {a b:List Ob}{i:Nat}(h1:i < a.length)(h2:i < b.length):eqbs (a.drop i) (b.drop i)=(eqb a[i] b[i]&&eqbs (a.drop (i+1)) (b.drop (i+1))):=by
 rw[List.drop_eq_getElem_cons h1,List.drop_eq_getElem_cons h2,eqbs]
theorem eqbs_len:∀{a b:List Ob},a.length≠b.length→eqbs a b=false:=by
 intro a b h;cases he:eqbs a b with
|false=>rfl
|true=>rw[eqbs_iff] at he;exact absurd (by rw[he]) h
end Ob
theorem rlist_ret {a b:Ob}{ka va kb vb:Value}{ca cb:List Value}(w:World)(ha:ObAt (InW w) w a ka va ca)(hb:ObAt (InW w) w b kb vb cb)(hl:a.kids.length≤1000000000)
  (ih:∀(i:Nat) (h1:i < a.kids.length) (h2:i < b.kids.length) (x y:Value) (W:World),OV (InW W) W x a.kids[i]→OV (InW W) W y b.kids[i]→Ret prog 44 #[x,y] W (fun v w'=>v=.bool (Ob.eqb a.kids[i] b.kids[i])∧Below W.heap.size W w')) :
  Ret prog 77 #[va,vb] w (fun v w'=>v=.bool (Ob.eqbs a.kids b.kids)∧Below w.heap.size w w'):=by
 refine ret_of fun K hK=>S_foliantref05_List_ok ?_;unfold S_foliantref05_List;rw[sl_len Tryz.underlying24 ha.kids.1,sl_len Tryz.underlying24 hb.kids.1];simp only[rs];by_cases hlen:(a.kids.length:Int)≠(b.kids.length:Int)
 ·simp only[decide_eq_true hlen,i_t];exact hK _ _ ⟨by rw[Ob.eqbs_len (by omega)],(Own.start w).done⟩
 have hle:a.kids.length=b.kids.length:=by omega
 simp only[decide_eq_false hlen,i_f,sl_len Tryz.underlying24 ha.kids.1];refine loop (fun vs w'=>∃(i:Nat),vs=[.int .i64 i]∧i≤a.kids.length∧Ob.eqbs a.kids b.kids=Ob.eqbs (a.kids.drop i) (b.kids.drop i)∧Own w w' []) (fun vs _=>a.kids.length - n0 vs) ⟨0,rfl,by omega,by simp,Own.start w⟩ ?_;rintro vs w2 ⟨i,rfl,hi,he,ho⟩ _;simp only[S_foliantref05_List_0,gd,rs];by_cases hlt:(i:Int) < (a.kids.length:Int)
 ·have h1:i < a.kids.length:=by omega
  have h2:i < b.kids.length:=by omega
  simp only[hlt,decide_true,rs];obtain⟨x,p,hx,hrx⟩:=kid_at ha h1;obtain⟨y,q,hy,hry⟩:=kid_at hb h2;refine quiet (q_at _ (fun W hW=>(hrx W (OwnS.keptIn (ho.grow hW))).1) ?_);refine q_at _ (fun W hW=>(hrx W (OwnS.keptIn (ho.grow hW))).2) ?_;refine q_at _ (fun W hW=>(hry W (OwnS.keptIn (ho.grow hW))).1) ?_;refine q_at _ (fun W hW=>(hry W (OwnS.keptIn (ho.grow hW))).2) ?_;refine q_call _ (fun W hW=>ret_grew (ih i h1 h2 x y W (hx.at_ (ho.grow hW)) (hy.at_ (ho.grow hW))) hW) ?_;refine q_do _ (fun W=>mv_run (by simp[Op.unary];rfl)) ?_;intro w3 hw;have ho:=ho.grow hw;rw[Ob.eqbs_drop h1 h2] at he;cases hq:Ob.eqb a.kids[i] b.kids[i] with
 |true=>
   simp only[Bool.not_true,i_f,rs];rw[wrap64_id (by omega) (by omega)];refine nextX ⟨i+1,rfl,by omega,?_,ho⟩ (by simp[n0,RowKit.intOf];omega);rw[he,hq];rfl
 |false=>
   simp only[Bool.not_false,i_t];exact hK _ _ ⟨by rw[he,hq];rfl,ho.done⟩
 ·simp only[hlt,decide_false,rs];refine hK _ _ ⟨?_,ho.done⟩;rw[he,List.drop_eq_nil_of_le (by omega),List.drop_eq_nil_of_le (by omega),Ob.eqbs]
theorem rsame5_ret (n:Nat):∀(a b:Ob) (x y:Value) (w:World),a.wt≤n→a.wt≤1000000000→OV (InW w) w x a→OV (InW w) w y b→Ret prog 44 #[x,y] w (fun v w'=>v=.bool (Ob.eqb a b)∧Below w.heap.size w w'):=by
 induction n with
|zero=>intro a b x y w h;have:=a.wt_pos;omega
|succ n ih=>
 intro a b x y w hn hw hx hy;obtain⟨ka,va,ca,rfl,ha⟩:=hx.open;obtain⟨kb,vb,cb,rfl,hb⟩:=hy.open;have hww:Ob.wts a.kids≤1000000000:=by cases a;rw[Ob.wt] at hw;simp only[Ob.kids];omega
 have hkt:Pl.tot a.keys≤1000000000:=by cases a;rw[Ob.wt] at hw;simp only[Ob.keys];omega
 have hlk:=Ob.len_wts a.kids;rw[Ob.eqb_eq];refine ret_of fun K hK=>S_foliantref05_Same_ok ?_;unfold S_foliantref05_Same;refine o_obb a ha.keys.one ha.kids.one (Own.start w) fun p w1 ho=>?_;refine o_obb b hb.keys.one hb.kids.one ho fun q w2 ho=>?_;rw[fa_o0,ob_k ho 1 rfl,fa_o0,ob_k ho 0 rfl];by_cases h1:a.k=b.k
 case neg=>simp only[rs,h1,decide_false,Bool.false_and] at hK ⊢;exact hK _ _ ⟨rfl,ho.done⟩
 simp only[rs,h1,decide_true,fa_o1,ob_n ho 1 rfl,ob_n ho 0 rfl,Bool.true_and] at hK ⊢;by_cases h2:a.n=b.n
 case neg=>simp only[rs,h2,decide_false,Bool.false_and] at hK ⊢;exact hK _ _ ⟨rfl,ho.done⟩
 simp only[rs,h2,decide_true,fa_o2,ob_g ho 1 rfl,ob_g ho 0 rfl,Bool.true_and] at hK ⊢;by_cases h3:a.g=b.g
 case neg=>simp only[rs,h3,decide_false,Bool.false_and] at hK ⊢;exact hK _ _ ⟨rfl,ho.done⟩
 simp only[rs,h3,decide_true,fa_o3,ob_s ho 1 rfl,ob_s ho 0 rfl,Bool.true_and] at hK ⊢;by_cases h4:a.s=b.s
 case neg=>simp only[rs,h4,decide_false,Bool.false_and] at hK ⊢;exact hK _ _ ⟨rfl,ho.done⟩
 simp only[rs,h4,decide_true,fa_o4,ob_keys ho 1 rfl,ob_keys ho 0 rfl,Bool.true_and] at hK ⊢;have hkl:=Pl.length_tot a.keys;refine c_told (rtexts_ret ka kb a.keys b.keys w2 (ho.oldSl ha.keys.1) (ho.oldSl hb.keys.1) (by omega)) rfl ho fun w3 ho=>?_;by_cases h5:a.keys=b.keys
 case neg=>simp only[rs,h5,decide_false,Bool.false_and] at hK ⊢;exact hK _ _ ⟨rfl,ho.done⟩
 simp only[rs,h5,decide_true,fa_o5,ob_kids ho 1 rfl,ob_kids ho 0 rfl,Bool.true_and] at hK ⊢;refine c_told (rlist_ret w3 (ha.in_ ho) (hb.in_ ho) (by omega) ?_) rfl ho fun w4 ho=>?_
 ·intro i hi hj x y W hx hy;have:=kid_wt hi;exact ih _ _ x y W (by omega) (by omega) hx hy
 exact hK _ _ ⟨rfl,ho.done⟩
end
section
open Eng Go.RowKit
section
variable {w:World}{PK:PKT}{K:VWP}{S:Nat→Prop}{w0:World}{L:List Ent}
end
namespace Dk
end Dk
def Dk.sizeI (l:List It):Nat:=(l.map fun i=>Vl.size i.obj).sum
theorem Dk.sizeI_take {l:List It}{i:Nat}(h:i < l.length):Dk.sizeI (l.take (i+1))=Dk.sizeI (l.take i)+Vl.size l[i].obj:=by
 unfold Dk.sizeI;rw[List.take_succ_eq_append_getElem h,List.map_append,List.sum_append];rfl
theorem Dk.sizeI_le (l:List It)(i:Nat):Dk.sizeI (l.take i)≤Dk.sizeI l:=by
 unfold Dk.sizeI;have h:=congrArg (fun x=>(x.map fun i:It=>Vl.size i.obj).sum) (List.take_append_drop i l);simp only[List.map_append,List.sum_append] at h;omega
theorem rsizeD_ret (d:Dc)(dv:Value)(M:Mem)(w:World)(hl:d.items.length≤10000000000)(hw:∀i∈d.items,i.obj.wt≤1000000000)(ht:d.trailer.wt≤1000000000)(hsz:Dk.size d≤1000000000000)(hM:M.has w)(hdv:DV M.A M.w dv d) :
  Ret prog 33 #[dv] w (fun v w'=>v=.int .i64 (Dk.size d:Nat)∧Below w.heap.size w w'):=by
 obtain⟨vi,tk,tc,cs,rfl,hda⟩:=hdv;have hdz:Dk.size d=Vl.size d.trailer+Dk.sizeI d.items:=rfl;refine ret_of fun K hK=>S_foliantref19_Size_ok ?_;unfold S_foliantref19_Size;refine o_dcb d hda.items.one hda.trailer.oneK hda.trailer.oneC (OwnS.memS hM) fun b w1 ho=>?_;rw[fa_d1,dc_tr ho 0 rfl];refine c_below ho (R:=fun v=>v=.int .i64 (Vl.size d.trailer:Nat)) (rsize_ret d.trailer.wt d.trailer _ w1 (Nat.le_refl _) (OV.inw (ho.hasM 1 rfl) hda.trailer) (by omega)) ?_;rintro _ w2 rfl ho;rw[fa_d0,dc_items ho 0 rfl,sl_len Tryz.underlying22 (hda.items.now (ho.hasM 1 rfl))];refine loop (fun vs W=>∃i:Nat,vs=[.int .i64 (Vl.size d.trailer+Dk.sizeI (d.items.take i):Nat),.int .i64 i]∧i≤d.items.length∧OwnS M.A w W [dcE b d vi tk tc,.mem M]) (fun vs _=>d.items.length - n1 vs) ⟨0,rfl,by omega,ho⟩ ?_;clear ho;rintro vs w3 ⟨i,rfl,hi,ho⟩ _;simp only[S_foliantref19_Size_0,gd,rs];have hle:=Dk.sizeI_le d.items i;by_cases hlt:(i:Int) < (d.items.length:Int)
 ·have hi':i < d.items.length:=by omega
  simp only[hlt,decide_true,i_t];obtain⟨xk,xc,bi,oi,hx,hr⟩:=item_at hda.items hda.all hi';obtain⟨r1,r2⟩:=hr w3 (ho.hasM 1 rfl);refine do_eq r1 |>.mpr (do_eq (run_it r2) |>.mpr ?_);refine o_ita ho fun b6 w5 ho=>?_;refine it_put 0 hx.oneK hx.oneC ho rfl fun w6 ho=>?_;rw[fa_i2,it_obj ho 0 rfl];have hwi:=hw _ (List.getElem_mem hi');refine c_below ho (R:=fun v=>v=.int .i64 (Vl.size d.items[i].obj:Nat)) (rsize_ret d.items[i].obj.wt d.items[i].obj _ w6 (Nat.le_refl _) (OV.inw (ho.hasM 2 rfl) hx) (by omega)) ?_;rintro _ w7 rfl ho;have htk:=Dk.sizeI_take hi';have hle2:=Dk.sizeI_le d.items (i+1);simp only[rs];rw[wrap64_id (by omega) (by omega),wrap64_id (by omega) (by omega)];exact nextX ⟨i+1,by rw[htk];simp;omega,by omega,ho.tail⟩ (by simp[n1,RowKit.intOf];omega)
 ·simp only[hlt,decide_false,i_f];refine hK _ _ ⟨?_,(ho.toGives 1 rfl M.le_refl hM).below⟩;rw[List.take_of_length_le (by omega),hdz]
end
end Go.Proofs.YtoobidofdpdkbaaGreatDoor













namespace Go.Proofs.YtoobidofdpdkbaaGreatDoor
section
open Go
namespace Vl
end Vl
namespace Dk
theorem itemsG_cons {last:Option Int}{i:It}{l:List It}:itemsG last (i::l)=0↔numbers i=true∧(∀n,last=some n→n < i.num)∧content i=0∧itemsG (some i.num) l=0:=by
 rw[itemsG];split
 ·rename_i h;simp[h]
 rename_i h1
 have h1:numbers i=true:=by simpa using h1
 split
 ·rename_i h2
  simp only[show (9:Int)≠0 by decide,false_iff,not_and];intro _ h3;cases last with
 |none=>simp at h2
 |some n=>have:=h3 n rfl;simp at h2;omega
 rename_i h2
 have h2:∀n,last=some n→n < i.num:=by
  intro n hn;subst hn;simp at h2;omega
 split
 ·rename_i h3
  constructor
  ·intro e;exact absurd e h3
  ·rintro⟨-,-,e,-⟩;exact absurd e h3
 ·rename_i h3
  have h3:=Classical.not_not.1 h3;exact⟨fun e=>⟨h1,h2,h3,e⟩,fun e=>e.2.2.2⟩
theorem items_all:∀{l:List It} {last:Option Int},itemsG last l=0→∀i∈l,numbers i=true∧content i=0
|[],_,_,i,hi=>by cases hi
|a::l,last,h,i,hi=>by
  obtain⟨h1,h2,h3,h4⟩:=itemsG_cons.1 h;rcases List.mem_cons.1 hi with rfl|hi
  ·exact⟨h1,h3⟩
  ·exact items_all h4 i hi
theorem check_parts {d:Dc}:check d=0↔itemsG none d.items=0∧trail d=0:=by
 unfold check;split
 ·rename_i h
  constructor
  ·intro e;exact absurd e h
  ·intro e;exact absurd e.1 h
 ·rename_i h
  exact⟨fun e=>⟨Classical.not_not.1 h,e⟩,fun e=>e.2⟩
theorem trail_parts {d:Dc}:trail d=0↔Vl.check 1 d.trailer=0∧d.trailer.k=7∧d.trailer.keys.all known=true∧(root d).k=8∧(follow d (root d)).k=7:=by
 unfold trail;split
 ·rename_i h
  constructor
  ·intro e;exact absurd e h
  ·intro e;exact absurd e.1 h
 rename_i h1
 have h1:=Classical.not_not.1 h1;split
 ·rename_i h;simp[h]
 rename_i h2
 have h2:=Classical.not_not.1 h2;split
 ·rename_i h;simp[h]
 rename_i h3
 have h3:d.trailer.keys.all known=true:=by simpa using h3
 split
 ·rename_i h
  simp only[show (22:Int)≠0 by decide,false_iff,not_and];intro _ _ _ h4 h5;rcases h with h|h
  ·exact h h4
  ·exact h h5
 ·rename_i h
  simp only[not_or,Classical.not_not] at h;exact⟨fun _=>⟨h1,h2,h3,h.1,h.2⟩,fun _=>rfl⟩
theorem find_mem {l:List It}{n:Int}{i:It}(h:find l n=some i):i∈l∧i.num=n:=by
 unfold find at h;exact⟨List.mem_of_find?_eq_some h,by simpa using List.find?_some h⟩
end Dk
end
section
open Go
structure Lf where
 num:Int
 chain:List Ob
structure Pw where
 met:List Int
 pages:List Lf
structure Rc where
 x0:Int
 y0:Int
 x1:Int
 y1:Int
structure Pge where
 num:Int
 media:Rc
 crop:Rc
 rotate:Int
 res:Ob
namespace Pg
def kidsK:List UInt8:=[75,105,100,115]
def pageN:List UInt8:=[80,97,103,101]
def pagesN:List UInt8:=[80,97,103,101,115]
def mediaK:List UInt8:=[77,101,100,105,97,66,111,120]
def cropK:List UInt8:=[67,114,111,112,66,111,120]
def rotK:List UInt8:=[82,111,116,97,116,101]
def resK:List UInt8:=[82,101,115,111,117,114,99,101,115]
def conK:List UInt8:=[67,111,110,116,101,110,116,115]
def val (d:Dc)(o:Ob)(k:List UInt8):Ob:=Dk.path d o [k]
def named (d:Dc)(o:Ob)(k s:List UInt8):Bool:=decide ((val d o k).k=5)&&decide ((val d o k).s=s)
def leafB (d:Dc)(o:Ob):Bool:=named d o Dk.typeK pageN
def nodeB (d:Dc)(o:Ob):Bool:=named d o Dk.typeK pagesN
def badN (d:Dc)(r:Ob):Bool:=decide (r.k≠8)||decide ((Dk.follow d r).k≠7)||(!leafB d (Dk.follow d r)&&!nodeB d (Dk.follow d r))||(nodeB d (Dk.follow d r)&&decide ((val d (Dk.follow d r) kidsK).k≠6))
def foldE (g:Ob→Pw→Pw×Int):List Ob→Pw→Pw×Int
|[],s=>(s,0)
|o::l,s=>if (g o s).2≠0 then g o s else foldE g l (g o s).1
def node (d:Dc):Nat→Ob→List Ob→Pw→Pw×Int
|f,r,above,s=>
  if badN d r=true then (s,24)
  else if r.n∈s.met then (s,11)
  else match f with
 |0=>(s,7)
 |f+1=>
   if 4096≤s.met.length∨(leafB d (Dk.follow d r)=true∧2048≤s.pages.length) then (s,6)
   else if leafB d (Dk.follow d r)=true then (⟨s.met++[r.n],s.pages++[⟨r.n,Dk.follow d r::above⟩]⟩,0)
   else foldE (fun k s=>node d f k (Dk.follow d r::above) s) (val d (Dk.follow d r) kidsK).kids ⟨s.met++[r.n],s.pages⟩
def root (d:Dc):Ob:=Dk.follow d (Dk.root d)
def first (d:Dc):Ob:=(Vl.get (root d) pagesN).getD Vl.ob0
def leaves (d:Dc):List Lf×Int:=
 if Dk.check d≠0 then ([],Dk.check d) else if (node d 24 (first d) [] ⟨[],[]⟩).2≠0 then ([],(node d 24 (first d) [] ⟨[],[]⟩).2) else ((node d 24 (first d) [] ⟨[],[]⟩).1.pages,0)
def inh (d:Dc):List Ob→List UInt8→Ob
|[],_=>Vl.ob0
|o::l,k=>if (val d o k).k≠0 then val d o k else inh d l k
def num1 (x:Int):Int×Bool:=if (decide (-1073741824≤x)&&decide (x≤1073741824))=true then (x,true) else (0,false)
def number (o:Ob):Int×Bool:=if o.k=2 then (if (decide (-107374≤o.n)&&decide (o.n≤107374))=true then num1 (o.n*10000) else (0,false)) else if o.k=3 then num1 o.n else (0,false)
def rc0:Rc:=⟨0,0,0,0⟩
def four (a b c e:Int):Rc:=⟨min a c,min b e,max a c,max b e⟩
def numAt (d:Dc)(a:Ob)(i:Nat):Int×Bool:=number (Dk.follow d (a.kids.getD i Vl.ob0))
def rectA (d:Dc)(a:Ob):Rc×Int:=
 if a.k≠6∨a.kids.length≠4 then (rc0,3)
 else if ((numAt d a 0).2&&(numAt d a 1).2&&(numAt d a 2).2&&(numAt d a 3).2)=false then (rc0,3)
 else (four (numAt d a 0).1 (numAt d a 1).1 (numAt d a 2).1 (numAt d a 3).1,0)
def rect (d:Dc)(o:Ob):Rc×Int:=rectA d (Dk.follow d o)
def cut (a b:Rc):Rc:=⟨max a.x0 b.x0,max a.y0 b.y0,min a.x1 b.x1,min a.y1 b.y1⟩
def room (r:Rc):Bool:=decide (r.x0 < r.x1)&&decide (r.y0 < r.y1)
def dict0:Ob:=.mk 7 0 0 [] [] []
def pge0:Pge:=⟨0,rc0,rc0,0,Vl.ob0⟩
def turn (n:Int):Int:=((n.tmod 360)+360).tmod 360
def cropB (d:Dc)(v:Ob)(media:Rc):Rc:=if v.k≠0 then (if room (cut (rect d v).1 media)=true then cut (rect d v).1 media else media) else media
def page (d:Dc)(x:Lf):Pge×Int:=
 if (rect d (inh d x.chain mediaK)).2≠0 then (pge0,24)
 else if (inh d x.chain cropK).k≠0∧(rect d (inh d x.chain cropK)).2≠0 then (pge0,24)
 else if (inh d x.chain rotK).k≠0∧((inh d x.chain rotK).k≠2∨(inh d x.chain rotK).n.tmod 90≠0) then (pge0,24)
 else if (inh d x.chain resK).k≠0∧(inh d x.chain resK).k≠7 then (pge0,24)
 else (⟨x.num,(rect d (inh d x.chain mediaK)).1,cropB d (inh d x.chain cropK) (rect d (inh d x.chain mediaK)).1,
  if (inh d x.chain rotK).k≠0 then turn (inh d x.chain rotK).n else 0,if (inh d x.chain resK).k≠0 then inh d x.chain resK else dict0⟩,0)
def pagesG (d:Dc):List Lf→List Pge→List Pge×Int
|[],acc=>(acc,0)
|x::l,acc=>if (page d x).2≠0 then ([],(page d x).2) else pagesG d l (acc++[(page d x).1])
def list (d:Dc):List Pge×Int:=if (leaves d).2≠0 then ([],(leaves d).2) else pagesG d (leaves d).1 []
def placeG (num:Int):Nat→List Lf→Int×Bool
|_,[]=>(0,false)
|i,x::l=>if x.num=num then ((i:Int),true) else placeG num (i+1) l
def place (d:Dc)(num:Int):Int×Bool:=placeG num 0 (leaves d).1
def lf0:Lf:=⟨0,[]⟩
def at_ (d:Dc)(n:Int):Lf×Int:=if (leaves d).2≠0 then (lf0,(leaves d).2) else if n < 0∨((leaves d).1.length:Int)≤n then (lf0,8) else ((leaves d).1.getD n.toNat lf0,0)
def get (d:Dc)(n:Int):Pge×Int:=if (at_ d n).2≠0 then (pge0,(at_ d n).2) else page d (at_ d n).1
def texts:List Ob→List UInt8
|[]=>[]
|[o]=>o.s
|o::p::l=>o.s++10::texts (p::l)
def plainS (o:Ob):Bool:=decide (o.k=9)&&decide (o.keys=[])
def streams (d:Dc)(c:Ob):List Ob:=if c.k=6 then c.kids.map (Dk.follow d) else [c]
end Pg
end
section
open Go
namespace Pg
theorem badN_ok {d:Dc}{r:Ob}(h:badN d r=false):r.k=8∧(Dk.follow d r).k=7∧(leafB d (Dk.follow d r)=false→nodeB d (Dk.follow d r)=true∧(val d (Dk.follow d r) kidsK).k=6):=by
 simp only[badN,Bool.or_eq_false_iff,decide_eq_false_iff_not,Classical.not_not,Bool.and_eq_false_iff,Bool.not_eq_false'] at h;obtain⟨⟨⟨h1,h2⟩,h3⟩,h4⟩:=h;refine⟨h1,h2,fun hl=>?_⟩;rcases h3 with h3|h3
 ·rw[hl] at h3;cases h3
 ·refine⟨h3,?_⟩;rcases h4 with h4|h4
  ·rw[h3] at h4;cases h4
  ·exact h4
theorem pagesG_ok {d:Dc}:∀(l:List Lf) (acc:List Pge),(pagesG d l acc).2=0→(pagesG d l acc).1=acc++l.map (fun x=>(page d x).1)∧∀x∈l,(page d x).2=0
|[],acc,_=>⟨by simp[pagesG],fun x hx=>(by cases hx)⟩
|x::l,acc,h=>by
  rw[pagesG] at h ⊢;by_cases hx:(page d x).2≠0
  ·rw[if_pos hx] at h;exact absurd h hx
  ·rw[if_neg hx] at h ⊢;obtain⟨h1,h2⟩:=pagesG_ok l _ h;refine⟨by rw[h1];simp,fun y hy=>?_⟩;rcases List.mem_cons.1 hy with rfl|hy
   ·exact Classical.not_not.1 hx
   ·exact h2 y hy
theorem pagesG_err {d:Dc}:∀(l:List Lf) (acc:List Pge),(pagesG d l acc).2≠0→(pagesG d l acc).1=[]
|[],acc,h=>by rw[pagesG] at h;exact absurd rfl h
|x::l,acc,h=>by
  rw[pagesG] at h ⊢;by_cases hx:(page d x).2≠0
  ·rw[if_pos hx]
  ·rw[if_neg hx] at h ⊢;exact pagesG_err l _ h
theorem list_err {d:Dc}(h:(list d).2≠0):(list d).1=[]:=by
 unfold list at h ⊢;split
 ·rfl
 ·rename_i h1;rw[if_neg h1] at h;exact pagesG_err _ _ h
theorem list_ok {d:Dc}(h:(list d).2=0):(leaves d).2=0∧(list d).1=(leaves d).1.map (fun x=>(page d x).1)∧∀x∈(leaves d).1,(page d x).2=0:=by
 unfold list at h ⊢;by_cases h1:(leaves d).2≠0
 ·rw[if_pos h1] at h;exact absurd h h1
 ·rw[if_neg h1] at h ⊢;obtain⟨h2,h3⟩:=pagesG_ok _ _ h;exact⟨Classical.not_not.1 h1,by rw[h2];rfl,h3⟩
theorem num1_bd (x:Int):-1073741824≤(num1 x).1∧(num1 x).1≤1073741824:=by
 unfold num1;split
 ·rename_i h
  simpa using h
 ·exact⟨by decide,by decide⟩
theorem number_bd (o:Ob):-1073741824≤(number o).1∧(number o).1≤1073741824:=by
 unfold number;split
 ·split
  ·exact num1_bd _
  ·exact⟨by decide,by decide⟩
 split
 ·exact num1_bd _
 ·exact⟨by decide,by decide⟩
structure RcOk (r:Rc):Prop where
 x0:-1073741824≤r.x0
 y0:-1073741824≤r.y0
 x1:r.x1≤1073741824
 y1:r.y1≤1073741824
 x:r.x0≤r.x1
 y:r.y0≤r.y1
theorem rectA_ok (d:Dc)(a:Ob):RcOk (rectA d a).1:=by
 have z:RcOk rc0:=⟨by decide,by decide,by decide,by decide,by decide,by decide⟩;unfold rectA;split
 ·exact z
 split
 ·exact z
 have n0:=number_bd (Dk.follow d (a.kids.getD 0 Vl.ob0));have n1:=number_bd (Dk.follow d (a.kids.getD 1 Vl.ob0));have n2:=number_bd (Dk.follow d (a.kids.getD 2 Vl.ob0));have n3:=number_bd (Dk.follow d (a.kids.getD 3 Vl.ob0));unfold four numAt;refine⟨?_,?_,?_,?_,?_,?_⟩<;>simp only<;>omega
theorem rect_ok (d:Dc)(o:Ob):RcOk (rect d o).1:=rectA_ok d _
theorem turn_ok {n:Int}(h:n.tmod 90=0):(turn n).tmod 90=0∧0≤turn n∧turn n≤270∧turn (turn n)=turn n:=by
 have h1:n=90*n.tdiv 90:=by have:=Int.mul_tdiv_add_tmod n 90;omega
 generalize n.tdiv 90=q at h1;subst h1;have e:turn (90*q)=90*(q % 4):=by
  unfold turn;have h3:(90*q).tmod 360=if 0≤90*q∨(360:Int) ∣ 90*q then (90*q) % 360 else (90*q) % 360 - 360:=by
   rw[Int.tmod_eq_emod];split<;>simp
  rw[h3];split
  ·rw[Int.tmod_eq_emod_of_nonneg (by omega)];omega
  ·rw[Int.tmod_eq_emod_of_nonneg (by omega)];omega
 rw[e];have h2:0≤q % 4∧q % 4 < 4:=by omega
 generalize q % 4=m at h2;refine⟨?_,by omega,by omega,?_⟩
 ·rw[Int.tmod_eq_emod_of_nonneg (by omega)];omega
 ·unfold turn;rw[Int.tmod_eq_emod_of_nonneg (show 0≤90*m by omega),Int.tmod_eq_emod_of_nonneg (by omega)];omega
structure PgOk (p:Pge):Prop where
 media:RcOk p.media
 c1:p.media.x0≤p.crop.x0
 c2:p.media.y0≤p.crop.y0
 c3:p.crop.x1≤p.media.x1
 c4:p.crop.y1≤p.media.y1
 r1:p.rotate.tmod 90=0
 r2:0≤p.rotate
 r3:p.rotate≤270
 r4:turn p.rotate=p.rotate
 res:p.res.k=7
theorem page_ok {d:Dc}{x:Lf}(h:(page d x).2=0):PgOk (page d x).1∧(rect d (inh d x.chain mediaK)).2=0∧((inh d x.chain cropK).k≠0→(rect d (inh d x.chain cropK)).2=0)
 ∧(page d x).1=⟨x.num,(rect d (inh d x.chain mediaK)).1,cropB d (inh d x.chain cropK) (rect d (inh d x.chain mediaK)).1,
  if (inh d x.chain rotK).k≠0 then turn (inh d x.chain rotK).n else 0,if (inh d x.chain resK).k≠0 then inh d x.chain resK else dict0⟩:=by
 unfold page at h ⊢;by_cases h1:(rect d (inh d x.chain mediaK)).2≠0
 ·rw[if_pos h1] at h;cases h
 rw[if_neg h1] at h ⊢;by_cases h2:(inh d x.chain cropK).k≠0∧(rect d (inh d x.chain cropK)).2≠0
 ·rw[if_pos h2] at h;cases h
 rw[if_neg h2] at h ⊢;by_cases h3:(inh d x.chain rotK).k≠0∧((inh d x.chain rotK).k≠2∨(inh d x.chain rotK).n.tmod 90≠0)
 ·rw[if_pos h3] at h;cases h
 rw[if_neg h3] at h ⊢;by_cases h4:(inh d x.chain resK).k≠0∧(inh d x.chain resK).k≠7
 ·rw[if_pos h4] at h;cases h
 rw[if_neg h4];have hm:=rect_ok d (inh d x.chain mediaK);have hrot:(inh d x.chain rotK).k≠0→(inh d x.chain rotK).n.tmod 90=0:=by
  intro hk;have:=(not_and.1 h3) hk;exact Classical.not_not.1 (not_or.1 this).2
 have hcrop:∀m:Rc,m.x0≤(cropB d (inh d x.chain cropK) m).x0∧m.y0≤(cropB d (inh d x.chain cropK) m).y0∧(cropB d (inh d x.chain cropK) m).x1≤m.x1∧(cropB d (inh d x.chain cropK) m).y1≤m.y1:=by
  intro m;unfold cropB;split
  ·split
   ·unfold cut;simp only;omega
   ·omega
  ·omega
 have hturn:∀k,k=(if (inh d x.chain rotK).k≠0 then turn (inh d x.chain rotK).n else 0)→k.tmod 90=0∧0≤k∧k≤270∧turn k=k:=by
  rintro k rfl;split
  ·rename_i hk;exact turn_ok (hrot hk)
  ·exact⟨by decide,by decide,by decide,by decide⟩
 obtain⟨t1,t2,t3,t4⟩:=hturn _ rfl;obtain⟨g1,g2,g3,g4⟩:=hcrop (rect d (inh d x.chain mediaK)).1;refine⟨⟨hm,g1,g2,g3,g4,t1,t2,t3,t4,?_⟩,Classical.not_not.1 h1,fun hk=>?_,rfl⟩
 ·show (if (inh d x.chain resK).k≠0 then inh d x.chain resK else dict0).k=7;split
  ·rename_i hk
   exact Classical.not_not.1 ((not_and.1 h4) hk)
  ·rfl
 ·exact Classical.not_not.1 ((not_and.1 h2) hk)
end Pg
end
section
open Go
namespace Vl
theorem put_lens {o:Ob}{key:List UInt8}{v:Ob}(hl:o.keys.length=o.kids.length):(put o key v).keys.length=(put o key v).kids.length:=by
 have hp:=place_le o.keys key;show (o.keys.take (place o.keys key)++key::o.keys.drop (place o.keys key+if hit o.keys key then 1 else 0)).length=(o.kids.take (place o.keys key)++v::o.kids.drop (place o.keys key+if hit o.keys key then 1 else 0)).length;simp only[List.length_append,List.length_take,List.length_cons,List.length_drop];omega
end Vl
namespace Dk
end Dk
namespace Pg
section
variable {d:Dc}{j:It}{o o':Ob}
end
def intO (n:Int):Ob:=.mk 2 n 0 [] [] []
theorem at_ok {d:Dc}{n:Int}(h:(at_ d n).2=0):(leaves d).2=0∧0≤n∧∃hn:n.toNat < (leaves d).1.length,at_ d n=((leaves d).1[n.toNat],0):=by
 unfold at_ at h ⊢;by_cases h1:(leaves d).2≠0
 ·rw[if_pos h1] at h;exact absurd h h1
 rw[if_neg h1] at h ⊢;by_cases h2:n < 0∨((leaves d).1.length:Int)≤n
 ·rw[if_pos h2] at h;cases h
 rw[if_neg h2];refine⟨Classical.not_not.1 h1,by omega,by omega,?_⟩;rw[List.getD_eq_getElem?_getD,List.getElem?_eq_getElem (by omega)];rfl
theorem get_ok {d:Dc}{n:Int}(h:(get d n).2=0):(at_ d n).2=0∧get d n=page d (at_ d n).1:=by
 unfold get at h ⊢;by_cases h1:(at_ d n).2≠0
 ·rw[if_pos h1] at h;exact absurd h h1
 rw[if_neg h1];exact⟨Classical.not_not.1 h1,rfl⟩
theorem apart {d:Dc}{a:Ob}(h1:leafB d a=true)(h2:nodeB d a=true):False:=by
 unfold leafB named at h1;unfold nodeB named at h2;simp only[Bool.and_eq_true,decide_eq_true_eq] at h1 h2;have:=h1.2.symm.trans h2.2;exact absurd this (by decide)
end Pg
end
end Go.Proofs.YtoobidofdpdkbaaGreatDoor

namespace Go.Proofs.YtoobidofdpdkbaaGreatDoor
section
open Go
structure Lb.Sm (B:Nat) (d:Dc):Prop where
 len:d.items.length≤B
 items:∀i∈d.items,i.obj.wt≤B
 trailer:d.trailer.wt≤B
namespace Lb
theorem Sm.ok {B:Nat}{d:Dc}(h:Sm B d)(hB:B≤900000000):Dk.Ok d:=⟨by have:=h.len;omega,fun i hi=>by have:=h.items i hi;omega,by have:=h.trailer;omega⟩
end Lb
end
section
open Go
namespace Dk
end Dk
namespace Pg
def nameO (s:List UInt8):Ob:=.mk 5 0 0 s [] []
def refO (n:Int):Ob:=.mk 8 n 0 [] [] []
def arrO (l:List Ob):Ob:=.mk 6 0 0 [] [] l
def strmO (s:List UInt8):Ob:=.mk 9 0 0 s [] []
def catN:List UInt8:=[67,97,116,97,108,111,103]
def boxI (a b c e:Int):Ob:=arrO [intO a,intO b,intO c,intO e]
def rootO:Ob:=.mk 7 0 0 [] [pagesN,Dk.typeK] [refO 2,nameO catN]
def treeO:Ob:=.mk 7 0 0 [] [kidsK,mediaK,Dk.typeK] [arrO [refO 3,refO 4],boxI 3 4 1 2,nameO pagesN]
def oneO (c:Ob):Ob:=.mk 7 0 0 [] [conK,Dk.typeK] [c,nameO pageN]
def twoO:Ob:=.mk 7 0 0 [] [cropK,mediaK,rotK,Dk.typeK] [boxI 5 5 20 20,boxI 0 0 9 9,intO (-90),nameO pageN]
def trO:Ob:=.mk 7 0 0 [] [Dk.rootK] [refO 1]
def docT (c:Ob)(t:List It):Dc:=⟨[⟨1,0,rootO⟩,⟨2,0,treeO⟩,⟨3,0,oneO c⟩,⟨4,0,twoO⟩,⟨5,0,strmO [113]⟩]++t,trO⟩
def conS:Ob:=arrO [refO 5,refO 5]
def docS:Dc:=docT conS []
theorem docS_check:Dk.check docS=0:=by decide +kernel
theorem node_docT (c:Ob)(t:List It):node (docT c t) 24 (first (docT c t)) [] ⟨[],[]⟩=(⟨[2,3,4],[⟨3,[oneO c,treeO]⟩,⟨4,[twoO,treeO]⟩]⟩,0):=by kernel_rfl
theorem leaves_docT {c:Ob}{t:List It}(h:Dk.check (docT c t)=0):leaves (docT c t)=([⟨3,[oneO c,treeO]⟩,⟨4,[twoO,treeO]⟩],0):=by
 unfold leaves;rw[if_neg (by simp[h]),node_docT];rfl
def pg1:Pge:=⟨3,⟨10000,20000,30000,40000⟩,⟨10000,20000,30000,40000⟩,0,dict0⟩
def pg2:Pge:=⟨4,⟨0,0,90000,90000⟩,⟨50000,50000,90000,90000⟩,270,dict0⟩
theorem page1 (c:Ob)(t:List It):page (docT c t) ⟨3,[oneO c,treeO]⟩=(pg1,0):=by kernel_rfl
theorem page2 (c:Ob)(t:List It):page (docT c t) ⟨4,[twoO,treeO]⟩=(pg2,0):=by kernel_rfl
theorem get1 {c:Ob}{t:List It}(h:Dk.check (docT c t)=0):get (docT c t) 0=(pg1,0):=by
 unfold get at_;rw[leaves_docT h];exact page1 c t
theorem get2 {c:Ob}{t:List It}(h:Dk.check (docT c t)=0):get (docT c t) 1=(pg2,0):=by
 unfold get at_;rw[leaves_docT h];exact page2 c t
end Pg
end
end Go.Proofs.YtoobidofdpdkbaaGreatDoor
