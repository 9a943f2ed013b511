/- Texts that go together: FoR FoS Plain47C FoT SLaw47 EngV FoU FoV FoW FoX FoY FoZ FoEa LayR FoRow FoRowE GoesN. -/
import Derived.Test.YtmkodaephgnehaaGreatDoorRows
import Derived.Lib.LaidU8T
import GoSem.ClaimGoes
import Derived.KernelRfl
import Derived.Test.YtmkodaephgnehaaGreatDoorMkkceimln
import Derived.Test.YtmkodaephgnehaaGreatDoorMmkpgbmin
import Derived.Test.YtmkodaephgnehaaGreatDoorMmkfanipp
import Derived.Test.YtmkodaephgnehaaGreatDoorMhhfaghpd
set_option linter.defProp false
set_option linter.unusedSimpArgs false
set_option linter.unusedVariables false
set_option maxRecDepth 20000
open Go.Proofs.Tryz (prog)
namespace Go.Proofs.YtmkodaephgnehaaGreatDoor
section
open Eng Go.RowKit
def Fo.f0 (name:List UInt8):Ft:=⟨name,false,0,[],0,[],[]⟩
theorem maps47_ret (d:Dc)(x o:Ob){vi tk tc xk xc vk vc:Value}{ics:List Value}{bf:Nat}(M:Mem)(w:World)(hM:M.has w)(h0:o.k=0)(hda:DocAt M.A M.w d vi tk tc ics)(hx:OV M.A M.w (obV x xk xc) x)(hv:OV M.A M.w (obV o vk vc) o) :
  RetM prog 89 #[rdV d vi tk tc x xk xc,.pointer (some ⟨bf,0,none⟩),obV o vk vc] M w (fun r _=>r=.tuple #[]):=by
 refine retM_of hM fun K hK=>S_font_reader_maps_ok ?_;unfold S_font_reader_maps;refine o_rdb d x hda hx (OwnS.memS hM) fun b2 w1 ho=>?_;refine o_obb o hv.oneK hv.oneC ho fun b3 w2 ho=>?_;rw[fa_o0,ob_k ho 0 rfl,h0];simp only[rs,decide_true,i_t];exact hK _ _ M _ 2 ho rfl M.le_refl rfl
structure Fo.Reads (d:Dc) (x:Ob):Prop where
 simple:Fo.Simple d x
 dict:x.k=7
 sub:(Fo.val d x Fo.kSub).k=5∧(Fo.val d x Fo.kSub).s=Fo.kT1
 base:(Fo.val d x Fo.kBase).k=5
 toU:(Fo.val d x Fo.kToU).k=0
 ok:FtOk (Fo.readF d x (Fo.val d x Fo.kBase).s)
 chk:Fo.check (Fo.readF d x (Fo.val d x Fo.kBase).s)=0
section
variable {w:World}{PK PK2:PKT}{K:VWP}{S:Nat→Prop}{w0:World}{L:List Ent}
theorem o_fta (ho:OwnS S w0 w L)(k:∀b w',OwnS S w0 w' (ftE b (Fo.f0 []) nilS nilS nilS::L)→K (.pointer (some ⟨b,0,none⟩)) w'):DoX prog (mAlloc 26) w PK K:=
 o_new (fun b=>.pointer (some ⟨b,0,none⟩)) (ftC (Fo.f0 []) nilS nilS nilS) 26 (fun _=>by kernel_rfl) ho k
theorem ft_put (i:Nat){b:Nat}{f g:Ft}{wv nv mv wv' nv' mv':Value}(h1:wv'.oneCell'=true)(h2:nv'.oneCell'=true)(h3:mv'.oneCell'=true)(ho:OwnS S w0 w L)(hi:L[i]?=some (ftE b f wv nv mv))(k:∀w',OwnS S w0 w' (L.set i (ftE b g wv' nv' mv'))→K undef w') :
  DoX prog (mStore 26 (.pointer (some ⟨b,0,none⟩)) (ftV g wv' nv' mv')) w PK K:=o_put i ho hi (new:=ftC g wv' nv' mv') szFt (ftC_one h1 h2 h3) rfl k
theorem c_font47 {d:Dc}{x:Ob}{vi tk tc xk xc:Value}{ics:List Value}{N:Mem}(hut:UtM N)(hr:Fo.Reads d x)(ho:OwnS S w0 w (.mem N::L))(hda:DocAt N.A N.w d vi tk tc ics)(hx:OV N.A N.w (obV x xk xc) x)
  (k:∀N2 wv W,N.le N2→FtAt N2 (Fo.readF d x (Fo.val d x Fo.kBase).s) wv nilS nilS→OwnS S w0 W (.mem N2::L)→K (ftV (Fo.readF d x (Fo.val d x Fo.kBase).s) wv nilS nilS) W) :
  CallX prog 50 #[rdV d vi tk tc x xk xc] w PK K:=by
 have hs:=hr.simple;refine⟨S_font_reader_font_ok ?_⟩;unfold S_font_reader_font;refine o_rdb d x hda hx ho fun b1 w1 ho=>?_;refine o_fta ho fun b2 w2 ho=>?_;rw[rd_v ho 1 rfl];refine c_mem ho 2 rfl (at47_ret d x Fo.kSub N w2 hs.ok (by have:=hs.wt;omega) (ho.hasM 2 rfl) hda hx) ?_;intro y N1 w3 l1 hy ho;obtain⟨yk,yc,_,rfl,hya⟩:=hy.open;refine o_oba ho fun b3 w4 ho=>?_;refine ob_put 0 hya.keys.one hya.kids.one ho rfl fun w5 ho=>?_;rw[rd_v ho 2 rfl];refine c_mem ho 3 rfl (at47_ret d x Fo.kBase N1 w5 hs.ok (by have:=hs.wt;omega) (ho.hasM 3 rfl) (hda.le l1) (hx.le l1)) ?_;intro z N2 w6 l2 hz ho;obtain⟨zk,zc,_,rfl,hza⟩:=hz.open;refine o_oba ho fun b4 w7 ho=>?_;refine ob_put 0 hza.keys.one hza.kids.one ho rfl fun w8 ho=>?_;have h12:=l1.trans l2;have ho:OwnS S w0 w8 (obE b4 (Fo.val d x Fo.kBase) zk zc::obE b3 (Fo.val d x Fo.kSub) yk yc::ftE b2 (Fo.f0 []) nilS nilS nilS::rdE b1 d vi tk tc x xk xc::.mem N2::L):=ho;rw[fa_rd1,fa_o0,l_cell nInt5 (ho.cell 3 rfl 7 rfl)];simp only[rs,decide_eq_true hr.dict];rw[fa_o0,ob_k ho 1 rfl];simp only[rs,decide_eq_true hr.sub.1];rw[fa_o0,ob_k ho 0 rfl];simp only[rs,decide_eq_true hr.base];refine c_must47 rfl ?_;rw[fa_o3,ob_s ho 0 rfl];have hname:(Fo.readF d x (Fo.val d x Fo.kBase).s).name=(Fo.val d x Fo.kBase).s:=rfl;have htu:=hr.toU;have hok:=hr.ok;have hchk:=hr.chk;have hsub:=hr.sub.2;generalize (Fo.val d x Fo.kBase).s=nm at *;refine do_val (ftV (Fo.f0 nm) nilS nilS nilS) (by kernel_rfl) ?_;refine o_fta ho fun b5 w9 ho=>?_;refine ft_put 0 (g:=Fo.f0 nm) rfl rfl rfl ho rfl fun w10 ho=>?_;refine join fun J1 hJ1=>?_;rw[fa_o3,ob_s ho 2 rfl,hsub];refine join fun J2 hJ2=>?_;rw[e_str];simp only[rs,show decide (Fo.kT1=[84,121,112,101,49])=true by decide,i_t];refine hJ2 _ _ fun _=>?_;simp only[S_font_reader_font_0,gd,i_t];rw[rd_v ho 4 rfl];have ho:OwnS S w0 w10 (ftE b5 (Fo.f0 nm) nilS nilS nilS::([obE b4 (Fo.val d x Fo.kBase) zk zc,obE b3 (Fo.val d x Fo.kSub) yk yc,ftE b2 (Fo.f0 []) nilS nilS nilS,rdE b1 d vi tk tc x xk xc]++.mem N2::L)):=ho;have ho:=ho.perm (List.Perm.cons _ List.perm_middle);refine c_simple47 nm hs ho (hda.le h12) (hx.le h12) fun N3 wv w11 l3 hwv ho=>?_;have h13:=h12.trans l3;have ho:OwnS S w0 w11 (ftE b5 (Fo.readF d x nm) wv nilS nilS::.mem N3::obE b4 (Fo.val d x Fo.kBase) zk zc::obE b3 (Fo.val d x Fo.kSub) yk yc::ftE b2 (Fo.f0 []) nilS nilS nilS::rdE b1 d vi tk tc x xk xc::L):=ho;have hft:FtAt N3 (Fo.readF d x nm) wv nilS nilS:=⟨hwv,SlA.nil _ _ _ _,SlA.nil _ _ _ _⟩;refine hJ1 _ _ fun _=>?_;unfold S_font_reader_font_1;rw[rd_v ho 5 rfl];refine c_mem ho 1 rfl (at47_ret d x Fo.kToU N3 w11 hs.ok (by have:=hs.wt;omega) (ho.hasM 1 rfl) (hda.le h13) (hx.le h13)) ?_;intro q N4 w12 l4 hq ho;obtain⟨qk,qc,_,rfl,hqa⟩:=hq.open;have h14:=h13.trans l4;refine o_oba ho fun b6 w13 ho=>?_;refine ob_put 0 hqa.keys.one hqa.kids.one ho rfl fun w14 ho=>?_;have ho:OwnS S w0 w14 (obE b6 (Fo.val d x Fo.kToU) qk qc::ftE b5 (Fo.readF d x nm) wv nilS nilS::.mem N4::obE b4 (Fo.val d x Fo.kBase) zk zc::obE b3 (Fo.val d x Fo.kSub) yk yc::ftE b2 (Fo.f0 []) nilS nilS nilS::rdE b1 d vi tk tc x xk xc::L):=ho;rw[fa_o0,ob_k ho 0 rfl];simp only[rs,decide_eq_true htu,g_tf];rw[ft_v ho 1 rfl];refine c_mem ho 2 rfl (may47_ret (Fo.readF d x nm) wv nilS nilS N4 w14 hok (ho.hasM 2 rfl) (hft.le l4)) ?_;rintro _ N5 w15 l5 rfl ho
 try simp only[rs]
 refine c_must47 (Fo.check_may hchk) ?_;rw[rd_v ho 6 rfl,ob_v ho 0 rfl];refine c_mem ho 2 rfl (maps47_ret d x (Fo.val d x Fo.kToU) N5 w15 (ho.hasM 2 rfl) htu (hda.le (h14.trans l5)) (hx.le (h14.trans l5)) (hqa.ov.le l5)) ?_;rintro _ N6 w16 l6 rfl ho;rw[ft_v ho 1 rfl];have l46:=(l4.trans l5).trans l6;refine c_mem ho 2 rfl (fcheck47_ret (Fo.readF d x nm) wv nilS nilS N6 w16 (hut.le (h13.trans l46)) hok (ho.hasM 2 rfl) (hft.le l46)) ?_;rintro _ N7 w17 l7 rfl ho
 try simp only[rs]
 refine c_must47 (decide_eq_true hchk) ?_;rw[ft_v ho 1 rfl];refine ft_put 5 (g:=Fo.readF d x nm) hwv.one rfl rfl ho rfl fun w18 ho=>?_;refine ret_v1 (rv_cell (ho.agg 5 rfl aggFt)) ?_;have ho:OwnS S w0 w18 ([obE b6 (Fo.val d x Fo.kToU) qk qc,ftE b5 (Fo.readF d x nm) wv nilS nilS]++(.mem N7::([obE b4 (Fo.val d x Fo.kBase) zk zc,obE b3 (Fo.val d x Fo.kSub) yk yc,ftE b2 (Fo.readF d x nm) wv nilS nilS,rdE b1 d vi tk tc x xk xc]++L))):=ho;refine k N7 wv w18 (h13.trans (l46.trans l7)) (hft.le (l46.trans l7)) ?_;exact ho.sub ((List.Sublist.cons_cons _ (List.sublist_append_right _ _)).trans (List.sublist_append_right _ _))
theorem c_font47_f {d:Dc}{x:Ob}{vi tk tc xk xc:Value}{ics:List Value}{N:Mem}(hd:Dk.Ok d)(hw:x.wt≤100000000)(h7:x.k≠7)(ho:OwnS S w0 w (.mem N::L))(hda:DocAt N.A N.w d vi tk tc ics)(hx:OV N.A N.w (obV x xk xc) x)
  (k:∀N2 W,N.le N2→OwnS S w0 W (.mem N2::L)→PK [stF 27] W) :
  CallX prog 50 #[rdV d vi tk tc x xk xc] w PK K:=by
 refine⟨S_font_reader_font_ok ?_⟩;unfold S_font_reader_font;refine o_rdb d x hda hx ho fun b1 w1 ho=>?_;refine o_fta ho fun b2 w2 ho=>?_;rw[rd_v ho 1 rfl];refine c_mem ho 2 rfl (at47_ret d x Fo.kSub N w2 hd (by omega) (ho.hasM 2 rfl) hda hx) ?_;intro y N1 w3 l1 hy ho;obtain⟨yk,yc,_,rfl,hya⟩:=hy.open;refine o_oba ho fun b3 w4 ho=>?_;refine ob_put 0 hya.keys.one hya.kids.one ho rfl fun w5 ho=>?_;rw[rd_v ho 2 rfl];refine c_mem ho 3 rfl (at47_ret d x Fo.kBase N1 w5 hd (by omega) (ho.hasM 3 rfl) (hda.le l1) (hx.le l1)) ?_;intro z N2 w6 l2 hz ho;obtain⟨zk,zc,_,rfl,hza⟩:=hz.open;refine o_oba ho fun b4 w7 ho=>?_;refine ob_put 0 hza.keys.one hza.kids.one ho rfl fun w8 ho=>?_;have ho:OwnS S w0 w8 (obE b4 (Fo.val d x Fo.kBase) zk zc::obE b3 (Fo.val d x Fo.kSub) yk yc::ftE b2 (Fo.f0 []) nilS nilS nilS::rdE b1 d vi tk tc x xk xc::.mem N2::L):=ho;rw[fa_rd1,fa_o0,l_cell nInt5 (ho.cell 3 rfl 7 rfl)];simp only[rs,decide_eq_false h7,g_un];exact c_pan (must47_f w8) fun c w' ⟨hc,hw⟩=>by subst hc;subst hw;exact k N2 w8 (l1.trans l2) ho.tail.tail.tail.tail
end
end
section
open Eng Go.RowKit
theorem fread1_plain:plainB prog 48=true:=by kernel_rfl
theorem run_dc47 {W:World}{b:Nat}{d:Dc}{vi vk vc:Value}(h:(dcE b d vi vk vc).is W):(mLoad 50 (.pointer (some ⟨b,0,none⟩))).run prog W=.ok (.value (dcV d vi vk vc)) W:=
 run_load_at (AtV.agg aggDc (cs:=dcC d vi vk vc) rfl fun j v hj=>by rw[Nat.zero_add];exact cells_cell (T:=50) h hj)
theorem run_rdb (d:Dc)(o:Ob){A:Nat→Prop}{W0:World}{vi tk tc vk vc:Value}{ics:List Value}(hda:DocAt A W0 d vi tk tc ics)(hv:OV A W0 (obV o vk vc) o)(W:World):(mBuild 93 #[(0,dcV d vi tk tc),(1,obV o vk vc)]).run prog W=.ok (.value (rdV d vi tk tc o vk vc)) W:=by
 obtain⟨a1,c1,rfl,_⟩:=hda.items.form;obtain⟨_,h2⟩:=hda.trailer.slices;obtain⟨a2,c2,rfl,_⟩:=h2.keys.form;obtain⟨a3,c3,rfl,_⟩:=h2.kids.form;obtain⟨_,h4⟩:=hv.slices;obtain⟨a4,c4,rfl,_⟩:=h4.keys.form;obtain⟨a5,c5,rfl,_⟩:=h4.kids.form
 kernel_rfl
abbrev erE (b:Nat)(e:Int):Ent:=.cells b [.int .i64 e] 30
theorem fread47_ret (d:Dc)(o:Ob)(dv v:Value)(M:Mem)(w:World)(hut:UtM M)(hr:Fo.Reads d (Dk.follow d o))(how:o.wt≤1000000000)(hM:M.has w)(hdv:DV M.A M.w dv d)(hv:OV M.A M.w v o) :
  RetM prog 23 #[dv,v] M w (fun r N=>∃wv,r=.tuple #[ftV (Fo.readF d (Dk.follow d o) (Fo.val d (Dk.follow d o) Fo.kBase).s) wv nilS nilS,.int .i64 0]∧FtAt N (Fo.readF d (Dk.follow d o) (Fo.val d (Dk.follow d o) Fo.kBase).s) wv nilS nilS):=by
 obtain⟨vi,tk,tc,ics,rfl,hda⟩:=hdv;obtain⟨vk,vc,_,rfl,ha⟩:=hv.open;refine retM_of hM fun K hK=>S_font_Read_ok ?_;unfold S_font_Read;refine o_dcb d hda.items.one hda.trailer.oneK hda.trailer.oneC (OwnS.memS hM) fun b2 w1 ho=>?_;refine o_obb o ha.keys.one ha.kids.one ho fun b3 w2 ho=>?_;refine o_fta ho fun b4 w3 ho=>?_;refine o_new (fun b=>.pointer (some ⟨b,0,none⟩)) [.int .i64 0] 30 (fun _=>by kernel_rfl) ho fun b5 w4 ho=>?_;rw[m_func];refine⟨_,rfl,?_⟩;have ho:OwnS M.A w w4 [erE b5 0,ftE b4 (Fo.f0 []) nilS nilS nilS,obE b3 o vk vc,dcE b2 d vi tk tc,.mem M]:=ho;have ho:=ho.drew;refine⟨fun W=>(dcE b2 d vi tk tc).is W∧(obE b3 o vk vc).is W,⟨ho.at_ 3 rfl,ho.at_ 2 rfl⟩,?_⟩;refine hd_do _ (fun W h=>run_dc47 h.1) (hd_do _ (fun W h=>run_dc47 h.1) (hd_do _ (fun W h=>run_ob47 h.2) ?_));refine c_mem ho 4 rfl (dfollow_ret d o _ _ M _ hr.simple.ok how (ho.hasM 4 rfl) ⟨vi,tk,tc,ics,rfl,hda⟩ ha.ov) ?_;intro y N w5 l1 hy ho;obtain⟨yk,yc,_,rfl,hya⟩:=hy.open;refine⟨⟨ho.at_ 3 rfl,ho.at_ 2 rfl⟩,hd_pure _ (fun W=>run_rdb d _ (hda.le l1) hya.ov W) ?_⟩;have ho:OwnS M.A w w5 ([erE b5 0,ftE b4 (Fo.f0 []) nilS nilS nilS,obE b3 o vk vc,dcE b2 d vi tk tc]++[.mem N]):=ho;have ho:=ho.perm (List.perm_append_singleton _ _);refine c_font47 (hut.le l1) hr ho (hda.le l1) hya.ov fun N2 wv w6 l2 hft ho=>?_;refine⟨⟨ho.at_ 4 rfl,ho.at_ 3 rfl⟩,?_⟩;refine ft_put 2 hft.ws.one rfl rfl ho rfl fun w7 ho=>?_;refine o_store 1 ho rfl (by kernel_rfl) rfl (by simp) fun w8 ho=>?_;refine leave_fn (by simp) fread1_plain (S_font_Read_fn1_dok ?_);simp only[S_font_Read_fn1,recV,recM,Eng.n_nil Tryz.underlying20,rs,i_f];refine ret_v2 (rv_cell (ho.agg 2 rfl aggFt)) (rv_cell (by unfold AtV;exact run_loadVar_cell nErr5 (ho.cell 1 rfl 0 rfl))) ?_;exact hK _ _ N2 _ 0 ho rfl (l1.trans l2) ⟨wv,rfl,hft⟩
theorem aggSt47:(Tryz.prog.info? 73).map (·.size)=some 1:=by kernel_rfl
theorem fread47_f (d:Dc)(o:Ob)(dv v:Value)(M:Mem)(w:World)(hd:Dk.Ok d)(hw:(Dk.follow d o).wt≤100000000)(h7:(Dk.follow d o).k≠7)(how:o.wt≤1000000000)(hM:M.has w)(hdv:DV M.A M.w dv d)(hv:OV M.A M.w v o) :
  RetM prog 23 #[dv,v] M w (fun r _=>r=.tuple #[ftV (Fo.f0 []) nilS nilS nilS,.int .i64 27]):=by
 obtain⟨vi,tk,tc,ics,rfl,hda⟩:=hdv;obtain⟨vk,vc,_,rfl,ha⟩:=hv.open;refine retM_of hM fun K hK=>S_font_Read_ok ?_;unfold S_font_Read;refine o_dcb d hda.items.one hda.trailer.oneK hda.trailer.oneC (OwnS.memS hM) fun b2 w1 ho=>?_;refine o_obb o ha.keys.one ha.kids.one ho fun b3 w2 ho=>?_;refine o_fta ho fun b4 w3 ho=>?_;refine o_new (fun b=>.pointer (some ⟨b,0,none⟩)) [.int .i64 0] 30 (fun _=>by kernel_rfl) ho fun b5 w4 ho=>?_;rw[m_func];refine⟨_,rfl,?_⟩;have ho:OwnS M.A w w4 [erE b5 0,ftE b4 (Fo.f0 []) nilS nilS nilS,obE b3 o vk vc,dcE b2 d vi tk tc,.mem M]:=ho;have ho:=ho.drew;refine⟨fun W=>(dcE b2 d vi tk tc).is W∧(obE b3 o vk vc).is W,⟨ho.at_ 3 rfl,ho.at_ 2 rfl⟩,?_⟩;refine hd_do _ (fun W h=>run_dc47 h.1) (hd_do _ (fun W h=>run_dc47 h.1) (hd_do _ (fun W h=>run_ob47 h.2) ?_));refine c_mem ho 4 rfl (dfollow_ret d o _ _ M _ hd how (ho.hasM 4 rfl) ⟨vi,tk,tc,ics,rfl,hda⟩ ha.ov) ?_;intro y N w5 l1 hy ho;obtain⟨yk,yc,_,rfl,hya⟩:=hy.open;refine⟨⟨ho.at_ 3 rfl,ho.at_ 2 rfl⟩,hd_pure _ (fun W=>run_rdb d _ (hda.le l1) hya.ov W) ?_⟩;have ho:OwnS M.A w w5 ([erE b5 0,ftE b4 (Fo.f0 []) nilS nilS nilS,obE b3 o vk vc,dcE b2 d vi tk tc]++[.mem N]):=ho;have ho:=ho.perm (List.perm_append_singleton _ _);refine c_font47_f hd hw h7 ho (hda.le l1) hya.ov fun N2 w6 l2 ho=>?_;intro _ _ _ _;simp only[S_font_Read_p0,pd];refine leave_fn (by simp) fread1_plain (S_font_Read_fn1_dok ?_);simp only[S_font_Read_fn1,recV,recM,stF,Eng.n_some Tryz.underlying20,rs,i_t];simp only[t_hit nfSt47,x_ext (show [Value.agg #[.int .i64 27],Value.bool true][1]?=some (Value.bool true) from rfl),x_ext (show [Value.agg #[.int .i64 27],Value.bool true][0]?=some (Value.agg #[.int .i64 27]) from rfl)];refine o_new (fun b=>.pointer (some ⟨b,0,none⟩)) [.int .i64 0] 73 (fun _=>by kernel_rfl) ho fun b7 w7 ho=>?_;refine o_put 0 ho rfl (new:=[.int .i64 27]) aggSt47 (by simp[Value.oneCell']) rfl fun w8 ho=>?_;have ho:OwnS M.A w w8 [.cells b7 [.int .i64 27] 73,.mem N2,erE b5 0,ftE b4 (Fo.f0 []) nilS nilS nilS,obE b3 o vk vc,dcE b2 d vi tk tc]:=ho;refine join fun J hJ=>?_;simp only[rs,Bool.not_true,i_f];refine hJ _ _ fun _=>?_;unfold S_font_Read_fn1_0;have hz:∀{PK:PKT} {K:VWP} {W:World},DoX prog (mBuild 26 #[]) W PK K=K (ftV (Fo.f0 []) nilS nilS nilS) W:=fun {PK K W}=>do_eq (by kernel_rfl);have hfa:∀{PK:PKT} {K:VWP} {W:World},DoX prog (mFA 73 (.pointer (some ⟨b7,0,none⟩)) 0) W PK K=K (.pointer (some ⟨b7,0,none⟩)) W:=fun {PK K W}=>f_addr (o:=0) (by kernel_rfl);have out:∀{W:World},OwnS M.A w W [.cells b7 [.int .i64 27] 73,.mem N2,erE b5 27,ftE b4 (Fo.f0 []) nilS nilS nilS,obE b3 o vk vc,dcE b2 d vi tk tc]→RetX prog [.cell (.pointer (some ⟨b4,0,none⟩)) 26,.cell (.pointer (some ⟨b5,0,none⟩)) 30] W K:=fun ho=>
  ret_v2 (rv_cell (ho.agg 3 rfl aggFt)) (rv_cell (by unfold AtV;exact run_loadVar_cell nErr5 (ho.cell 2 rfl 0 rfl))) (hK _ _ N2 _ 1 ho rfl (l1.trans l2) rfl)
 have ho:=ho.drew;have st:∀{W:World} {e:Int} {PK:PKT} {K':World→Prop},OwnS M.A w W [.cells b7 [.int .i64 27] 73,.mem N2,erE b5 e,ftE b4 (Fo.f0 []) nilS nilS nilS,obE b3 o vk vc,dcE b2 d vi tk tc]→(∀W,OwnS M.A w W [.cells b7 [.int .i64 27] 73,.mem N2,erE b5 e,ftE b4 (Fo.f0 []) nilS nilS nilS,obE b3 o vk vc,dcE b2 d vi tk tc]→K' W)→DoX prog (mStore 26 (.pointer (some ⟨b4,0,none⟩)) (ftV (Fo.f0 []) nilS nilS nilS)) W PK fun _ w=>K' w:=
  fun ho k=>ft_put 3 (g:=Fo.f0 []) rfl rfl rfl ho rfl fun w9 ho=>k w9 ho
 have se:∀{W:World} {PK:PKT} {K':World→Prop},OwnS M.A w W [.cells b7 [.int .i64 27] 73,.mem N2,erE b5 0,ftE b4 (Fo.f0 []) nilS nilS nilS,obE b3 o vk vc,dcE b2 d vi tk tc]→(∀W,OwnS M.A w W [.cells b7 [.int .i64 27] 73,.mem N2,erE b5 27,ftE b4 (Fo.f0 []) nilS nilS nilS,obE b3 o vk vc,dcE b2 d vi tk tc]→K' W)→DoX prog (mStore 30 (.pointer (some ⟨b5,0,none⟩)) (.int .i64 27)) W PK fun _ w=>K' w:=
  fun ho k=>o_store 2 ho rfl (by kernel_rfl) rfl (by simp) fun w9 ho=>k w9 ho
 have ld:∀{W:World} {e:Int} {PK:PKT} {K:VWP},OwnS M.A w W [.cells b7 [.int .i64 27] 73,.mem N2,erE b5 e,ftE b4 (Fo.f0 []) nilS nilS nilS,obE b3 o vk vc,dcE b2 d vi tk tc]→DoX prog (mLoad 30 (.pointer (some ⟨b7,0,none⟩))) W PK K=K (.int .i64 27) W:=fun ho=>l_cell nErr5 (ho.cell 0 rfl 0 rfl);refine⟨?_⟩;simp only[hz,hfa,S_font_Read_fn1_1];refine⟨⟨⟨?_,?_⟩,?_⟩,⟨?_,?_⟩,?_⟩
 all_goals first
 |exact (ld ho).mpr (st ho fun W ho=>se ho fun W ho=>out ho)
 |exact st ho fun W ho=>(ld ho).mpr (se ho fun W ho=>out ho)
end
section
open Go
namespace Fo
def catK:List UInt8:=[67,97,116,97,108,111,103]
def smpD:Dc:=⟨[⟨1,0,.mk 7 0 0 [] [kType] [nm catK]⟩],.mk 7 0 0 [] [Dk.rootK] [.mk 8 1 0 [] [] []]⟩
def smpF:Ft:=⟨[72],false,65,[500,600],250,[],[]⟩
def ref2:Ob:=.mk 8 2 0 [] [] []
def smpO:Ob:=mkD (narrowP smpF)
def smpD1:Dc:=Dk.added smpD smpO
theorem smp_check:Dk.check smpD=0:=by decide +kernel
theorem smp_next:Dk.next smpD=2:=by decide +kernel
theorem smp_put:(Dk.put smpD ⟨Dk.next smpD,0,smpO⟩).2=0:=by decide +kernel
theorem smp_fcheck:check smpF=0:=by decide +kernel
theorem smp_items:smpD1=⟨smpD.items++[⟨2,0,smpO⟩],smpD.trailer⟩:=by rfl
theorem smp_follow:Dk.follow smpD1 ref2=smpO:=by rfl
theorem smp_sub:val smpD1 smpO kSub=nm kT1:=by rfl
theorem smp_base:val smpD1 smpO kBase=nm [72]:=by rfl
theorem smp_first:val smpD1 smpO kFirst=int 65:=by rfl
theorem smp_wid:val smpD1 smpO kWid=arr [int 500,int 600]:=by rfl
theorem smp_desc:val smpD1 smpO kDesc=mkD (descP smpF):=by rfl
theorem smp_miss:val smpD1 (mkD (descP smpF)) kMiss=int 250:=by rfl
theorem smp_enc:val smpD1 smpO kEnc=Vl.ob0:=by rfl
theorem smp_toU:val smpD1 smpO kToU=Vl.ob0:=by rfl
theorem smp_elems:elems smpD1 (arr [int 500,int 600])=[int 500,int 600]:=by rfl
theorem smp_read:readF smpD1 smpO [72]=smpF:=by
 unfold readF missOf;rw[smp_first,smp_wid,smp_desc,smp_miss,smp_elems];rfl
theorem smpD_ok:Dk.Ok smpD:=by
 refine⟨by decide,fun i hi=>?_,by decide⟩;rw[List.mem_singleton.1 hi]
 decide
end Fo
end
section
open Eng Go.RowKit
namespace Fo
theorem smpO_wt:smpO.wt≤10000:=by decide +kernel
theorem smp_addOk:AddOk smpD smpO:=by
 refine⟨smpD_ok,by decide,by have:=smpO_wt;omega,smp_check,by rw[smp_next];decide,fun i hi=>?_,smp_put⟩;rw[List.mem_singleton.1 hi]
 decide
theorem smp_wts:Ob.wts (flatP (narrowP smpF))≤1000000000:=by decide +kernel
theorem smpD1_ok:Dk.Ok smpD1:=by
 rw[smp_items];refine⟨by decide,fun i hi=>?_,by decide⟩;rcases List.mem_append.1 hi with hi|hi
 ·exact smpD_ok.items i hi
 ·rw[List.mem_singleton.1 hi];have:=smpO_wt;show smpO.wt≤_;omega
theorem smpF_ok:FtOk smpF:=⟨by decide,by decide,by decide,(fun s h=>by cases h),by decide,(fun x h=>by cases h),by decide⟩
theorem smp_simple:Simple smpD1 smpO:=by
 refine⟨smpD1_ok,by have:=smpO_wt;omega,?_,?_,?_,?_,?_,?_,?_,?_⟩
 ·rw[smp_first];exact .inr ⟨rfl,by decide,by decide⟩
 ·rw[smp_wid];exact .inr rfl
 ·rw[smp_wid];decide +kernel
 ·rw[smp_wid,smp_elems];intro o ho;rcases List.mem_cons.1 ho with rfl|ho
  ·exact⟨rfl,by decide,by decide⟩
  ·rw[List.mem_singleton.1 ho];exact⟨rfl,by decide,by decide⟩
 ·rw[smp_wid,smp_elems];decide
 ·rw[smp_desc];decide +kernel
 ·rw[smp_desc,smp_miss];exact fun _=>.inr ⟨rfl,by decide,by decide⟩
 ·rw[smp_enc];rfl
theorem smp_reads:Reads smpD1 smpO:=by
 have hn:(val smpD1 smpO kBase).s=[72]:=by rw[smp_base];rfl
 refine⟨smp_simple,rfl,?_,?_,?_,?_,?_⟩
 ·rw[smp_sub];exact⟨rfl,rfl⟩
 ·rw[smp_base];rfl
 ·rw[smp_toU];rfl
 ·rw[hn,smp_read];exact smpF_ok
 ·rw[hn,smp_read];exact smp_fcheck
end Fo
end
section
open Eng
def S_foliantlaw47_lives_0 (t1 t2 t3 t4:Value)(w:World)(K:Ending→World→Prop):Prop:=
 DoX prog (mLoad 50 t2) w (pk K) fun t24 w=>
 DoX prog (mLoad 48 t3) w (pk K) fun t25 w=>
 CallX prog 23 #[t24,t25] w (pk K) fun t26 w=>
 DoX prog (mExt t26 0) w (pk K) fun t27 w=>
 DoX prog (mExt t26 1) w (pk K) fun t28 w=>
 DoX prog (mAlloc 26) w (pk K) fun t5 w=>
 DoX prog (mStore 26 t5 t27) w (pk K) fun _ w=>
 DoX prog (mBuild 26 #[(1,(.bool true))]) w (pk K) fun t30 w=>
 CallX prog 7 #[t30,(.string ⟨#[1,2]⟩)] w (pk K) fun t31 w=>
 DoX prog (mExt t31 0) w (pk K) fun t32 w=>
 DoX prog (mExt t31 1) w (pk K) fun t33 w=>
 DoX prog (mBuild 26 #[(1,(.bool true))]) w (pk K) fun t35 w=>
 CallX prog 7 #[t35,(.string ⟨#[97]⟩)] w (pk K) fun t36 w=>
 DoX prog (mExt t36 0) w (pk K) fun t37 w=>
 DoX prog (mExt t36 1) w (pk K) fun t38 w=>
 CallX prog 22 #[] w (pk K) fun t40 w=>
 CallX prog 24 #[] w (pk K) fun t41 w=>
 CallX prog 23 #[t40,t41] w (pk K) fun t42 w=>
 DoX prog (mExt t42 0) w (pk K) fun t43 w=>
 DoX prog (mExt t42 1) w (pk K) fun t44 w=>
 DoX prog (mAlloc 26) w (pk K) fun t11 w=>
 DoX prog (mStore 26 t11 t43) w (pk K) fun _ w=>
 CallX prog 19 #[] w (pk K) fun t45 w=>
 DoX prog (mEq .eql 30 (.tmp 46) (.const (.int .i64 0)) t4 (.int .i64 0)) w (pk K) fun t47 w=>
 GDo t47 true (fun E=>DoX prog (mFA 48 t3 0) w (pk K) E) w fun t49 w=>
 GDo t47 true (fun E=>DoX prog (mLoad 3 t49) w (pk K) E) w fun t50 w=>
 GDo t47 true (fun E=>DoX prog (mEq .eql 3 (.tmp 50) (.const (.int .i64 8)) t50 (.int .i64 8)) w (pk K) E) w fun t51 w=>
 DoX prog (mPick t47 t51 (.bool false)) w (pk K) fun t52 w=>
 GDo t52 true (fun E=>E t28 w) w fun t54 w=>
 GDo t52 true (fun E=>DoX prog (mEq .eql 30 (.tmp 54) (.const (.int .i64 0)) t54 (.int .i64 0)) w (pk K) E) w fun t55 w=>
 DoX prog (mPick t52 t55 (.bool false)) w (pk K) fun t56 w=>
 GDo t56 true (fun E=>DoX prog (mLoad 26 t1) w (pk K) E) w fun t58 w=>
 GDo t56 true (fun E=>DoX prog (mLoad 26 t5) w (pk K) E) w fun t59 w=>
 GDo t56 true (fun E=>CallX prog 25 #[t58,t59] w (pk K) E) w fun t60 w=>
 DoX prog (mPick t56 t60 (.bool false)) w (pk K) fun t61 w=>
 GDo t61 true (fun E=>E t33 w) w fun t63 w=>
 GDo t61 true (fun E=>DoX prog (mEq .eql 30 (.tmp 63) (.const (.int .i64 0)) t63 (.int .i64 0)) w (pk K) E) w fun t64 w=>
 DoX prog (mPick t61 t64 (.bool false)) w (pk K) fun t65 w=>
 GDo t65 true (fun E=>E t32 w) w fun t67 w=>
 GDo t65 true (fun E=>DoX prog (mBuildS 29 1 #[(0,(.int .i64 258))]) w (pk K) E) w fun t68 w=>
 GDo t65 true (fun E=>CallX prog 9 #[t67,t68] w (pk K) E) w fun t69 w=>
 DoX prog (mPick t65 t69 (.bool false)) w (pk K) fun t70 w=>
 GDo t70 true (fun E=>E t38 w) w fun t72 w=>
 GDo t70 true (fun E=>DoX prog (mEq .eql 30 (.tmp 72) (.const (.int .i64 3)) t72 (.int .i64 3)) w (pk K) E) w fun t73 w=>
 DoX prog (mPick t70 t73 (.bool false)) w (pk K) fun t74 w=>
 GDo t74 true (fun E=>E t44 w) w fun t76 w=>
 GDo t74 true (fun E=>DoX prog (mEq .eql 30 (.tmp 76) (.const (.int .i64 27)) t76 (.int .i64 27)) w (pk K) E) w fun t77 w=>
 DoX prog (mPick t74 t77 (.bool false)) w (pk K) fun t78 w=>
 GDo t78 true (fun E=>E t45 w) w fun t80 w=>
 GDo t78 true (fun E=>DoX prog (mB .len #[23] 3 #[false] #[t80]) w (pk K) E) w fun t81 w=>
 GDo t78 true (fun E=>DoX prog (mEq .eql 3 (.tmp 81) (.const (.int .i64 256)) t81 (.int .i64 256)) w (pk K) E) w fun t82 w=>
 DoX prog (mPick t78 t82 (.bool false)) w (pk K) fun t83 w=>
 GDo t83 true (fun E=>E t45 w) w fun t85 w=>
 GDo t83 true (fun E=>DoX prog (mIA 23 t85 (.int .i64 65)) w (pk K) E) w fun t86 w=>
 GDo t83 true (fun E=>DoX prog (mLoad 9 t86) w (pk K) E) w fun t87 w=>
 GDo t83 true (fun E=>DoX prog (mEq .eql 9 (.tmp 87) (.const (.string ⟨#[65]⟩)) t87 (.string ⟨#[65]⟩)) w (pk K) E) w fun t88 w=>
 DoX prog (mPick t83 t88 (.bool false)) w (pk K) fun t89 w=>
 GDo t89 true (fun E=>E t45 w) w fun t91 w=>
 GDo t89 true (fun E=>DoX prog (mIA 23 t91 (.int .i64 126)) w (pk K) E) w fun t92 w=>
 GDo t89 true (fun E=>DoX prog (mLoad 9 t92) w (pk K) E) w fun t93 w=>
 GDo t89 true (fun E=>DoX prog (mEq .eql 9 (.tmp 93) (.const (.string ⟨#[97,115,99,105,105,116,105,108,100,101]⟩)) t93 (.string ⟨#[97,115,99,105,105,116,105,108,100,101]⟩)) w (pk K) E) w fun t94 w=>
 DoX prog (mPick t89 t94 (.bool false)) w (pk K) fun t95 w=>
 GDo t95 true (fun E=>E t45 w) w fun t97 w=>
 GDo t95 true (fun E=>DoX prog (mIA 23 t97 (.int .i64 31)) w (pk K) E) w fun t98 w=>
 GDo t95 true (fun E=>DoX prog (mLoad 9 t98) w (pk K) E) w fun t99 w=>
 GDo t95 true (fun E=>DoX prog (mEq .eql 9 (.tmp 99) (.const (.string ⟨#[]⟩)) t99 (.string ⟨#[]⟩)) w (pk K) E) w fun t100 w=>
 DoX prog (mPick t95 t100 (.bool false)) w (pk K) fun t101 w=>
 GDo t101 true (fun E=>CallX prog 14 #[(.string ⟨#[117,110,105,48,48,69,57]⟩)] w (pk K) E) w fun t103 w=>
 GDo t101 true (fun E=>DoX prog (mEq .eql 9 (.tmp 103) (.const (.string ⟨#[195,169]⟩)) t103 (.string ⟨#[195,169]⟩)) w (pk K) E) w fun t104 w=>
 DoX prog (mPick t101 t104 (.bool false)) w (pk K) fun t105 w=>
 GDo t105 true (fun E=>CallX prog 14 #[(.string ⟨#[117,110,105,68,56,48,48]⟩)] w (pk K) E) w fun t107 w=>
 GDo t105 true (fun E=>DoX prog (mEq .eql 9 (.tmp 107) (.const (.string ⟨#[]⟩)) t107 (.string ⟨#[]⟩)) w (pk K) E) w fun t108 w=>
 DoX prog (mPick t105 t108 (.bool false)) w (pk K) fun t109 w=>
 GDo t109 true (fun E=>CallX prog 14 #[(.string ⟨#[97,116]⟩)] w (pk K) E) w fun t111 w=>
 GDo t109 true (fun E=>DoX prog (mEq .eql 9 (.tmp 111) (.const (.string ⟨#[64]⟩)) t111 (.string ⟨#[64]⟩)) w (pk K) E) w fun t112 w=>
 DoX prog (mPick t109 t112 (.bool false)) w (pk K) fun t113 w=>
 GDo t113 true (fun E=>DoX prog (mLoad 26 t1) w (pk K) E) w fun t115 w=>
 GDo t113 true (fun E=>CallX prog 12 #[t115,(.int .i64 65)] w (pk K) E) w fun t116 w=>
 GDo t113 true (fun E=>DoX prog (mEq .eql 9 (.tmp 116) (.const (.string ⟨#[65]⟩)) t116 (.string ⟨#[65]⟩)) w (pk K) E) w fun t117 w=>
 DoX prog (mPick t113 t117 (.bool false)) w (pk K) fun t118 w=>
 GDo t118 true (fun E=>DoX prog (mLoad 26 t1) w (pk K) E) w fun t120 w=>
 GDo t118 true (fun E=>CallX prog 10 #[t120,(.int .i64 66)] w (pk K) E) w fun t121 w=>
 GDo t118 true (fun E=>DoX prog (mEq .eql 2 (.tmp 121) (.const (.int .i64 600)) t121 (.int .i64 600)) w (pk K) E) w fun t122 w=>
 DoX prog (mPick t118 t122 (.bool false)) w (pk K) fun t123 w=>
 GDo t123 true (fun E=>DoX prog (mLoad 26 t1) w (pk K) E) w fun t125 w=>
 GDo t123 true (fun E=>CallX prog 10 #[t125,(.int .i64 67)] w (pk K) E) w fun t126 w=>
 GDo t123 true (fun E=>DoX prog (mEq .eql 2 (.tmp 126) (.const (.int .i64 250)) t126 (.int .i64 250)) w (pk K) E) w fun t127 w=>
 DoX prog (mPick t123 t127 (.bool false)) w (pk K) fun t128 w=>
 GDo t128 true (fun E=>DoX prog (mLoad 26 t1) w (pk K) E) w fun t130 w=>
 GDo t128 true (fun E=>CallX prog 16 #[t130] w (pk K) E) w fun t131 w=>
 GDo t128 true (fun E=>DoX prog (mEq .eql 30 (.tmp 131) (.const (.int .i64 0)) t131 (.int .i64 0)) w (pk K) E) w fun t132 w=>
 DoX prog (mPick t128 t132 (.bool false)) w (pk K) fun t133 w=>
 GDo t133 true (fun E=>DoX prog (mBuild 26 #[]) w (pk K) E) w fun t135 w=>
 GDo t133 true (fun E=>CallX prog 16 #[t135] w (pk K) E) w fun t136 w=>
 GDo t133 true (fun E=>DoX prog (mEq .eql 30 (.tmp 136) (.const (.int .i64 1)) t136 (.int .i64 1)) w (pk K) E) w fun t137 w=>
 DoX prog (mPick t133 t137 (.bool false)) w (pk K) fun t138 w=>
 K (.returned t138) w
def S_foliantlaw47_lives_h1 (S1:World→Prop)(t1 t3 t17 t18:Value)(w:World)(K:Ending→World→Prop):Prop:=
 (CallX prog 21 #[t17,t18] w (pm1 (pm1 (pm1 (pm1 (pm1 (pm1 (pk K))))))) fun t19_1 w=>
 (HDo prog (fun _=>True) (mExt t19_1 0) fun t20_1=>
 HDo prog (fun _=>True) (mExt t19_1 1) fun t21_1=>
 HDo prog (fun _=>True) (mExt t19_1 2) fun t22_1=>
 DoX prog (mAlloc 50) w (pm1 (pm1 (pm1 (pm1 (pm1 (pm1 (pk K))))))) fun t2_1 w=>
 S1 w∧(DoX prog (mStore 50 t2_1 t20_1) w (pm1 (pm1 (pm1 (pm1 (pm1 (pm1 (pk K))))))) fun _ w=>
 (DoX prog (mStore 48 t3 t21_1) w (pm1 (pm1 (pm1 (pm1 (pm1 (pm1 (pk K))))))) fun _ w=>
 (S_foliantlaw47_lives_0 t1 t2_1 t3 t22_1 w K)))))∧(DoX prog (mAlloc 50) w (pm1 (pm1 (pm1 (pm1 (pm1 (pm1 (pk K))))))) fun t2_2 w=>
 S1 w∧(CallX prog 21 #[t17,t18] w (pm1 (pm1 (pm1 (pm1 (pm1 (pm1 (pk K))))))) fun t19_2 w=>
 (HDo prog (fun _=>True) (mExt t19_2 0) fun t20_2=>
 HDo prog (fun _=>True) (mExt t19_2 1) fun t21_2=>
 HDo prog (fun _=>True) (mExt t19_2 2) fun t22_2=>
 DoX prog (mStore 50 t2_2 t20_2) w (pm1 (pm1 (pm1 (pm1 (pm1 (pm1 (pk K))))))) fun _ w=>
 (DoX prog (mStore 48 t3 t21_2) w (pm1 (pm1 (pm1 (pm1 (pm1 (pm1 (pk K))))))) fun _ w=>
 (S_foliantlaw47_lives_0 t1 t2_2 t3 t22_2 w K)))))
def S_foliantlaw47_lives_h0 (S1:World→Prop)(t1 t2 t17 t18:Value)(w:World)(K:Ending→World→Prop):Prop:=
 (CallX prog 21 #[t17,t18] w (pm1 (pm1 (pm1 (pm1 (pm1 (pm1 (pk K))))))) fun t19_1 w=>
 (HDo prog (fun _=>True) (mExt t19_1 0) fun t20_1=>
 HDo prog (fun _=>True) (mExt t19_1 1) fun t21_1=>
 HDo prog (fun _=>True) (mExt t19_1 2) fun t22_1=>
 DoX prog (mAlloc 48) w (pm1 (pm1 (pm1 (pm1 (pm1 (pm1 (pk K))))))) fun t3_1 w=>
 S1 w∧(DoX prog (mStore 50 t2 t20_1) w (pm1 (pm1 (pm1 (pm1 (pm1 (pm1 (pk K))))))) fun _ w=>
 (DoX prog (mStore 48 t3_1 t21_1) w (pm1 (pm1 (pm1 (pm1 (pm1 (pm1 (pk K))))))) fun _ w=>
 (S_foliantlaw47_lives_0 t1 t2 t3_1 t22_1 w K)))))∧(DoX prog (mAlloc 48) w (pm1 (pm1 (pm1 (pm1 (pm1 (pm1 (pk K))))))) fun t3_2 w=>
 S1 w∧(CallX prog 21 #[t17,t18] w (pm1 (pm1 (pm1 (pm1 (pm1 (pm1 (pk K))))))) fun t19_2 w=>
 (HDo prog (fun _=>True) (mExt t19_2 0) fun t20_2=>
 HDo prog (fun _=>True) (mExt t19_2 1) fun t21_2=>
 HDo prog (fun _=>True) (mExt t19_2 2) fun t22_2=>
 DoX prog (mStore 50 t2 t20_2) w (pm1 (pm1 (pm1 (pm1 (pm1 (pm1 (pk K))))))) fun _ w=>
 (DoX prog (mStore 48 t3_2 t21_2) w (pm1 (pm1 (pm1 (pm1 (pm1 (pm1 (pk K))))))) fun _ w=>
 (S_foliantlaw47_lives_0 t1 t2 t3_2 t22_2 w K)))))
def S_foliantlaw47_lives (w:World)(K:Ending→World→Prop):Prop:=
 DoX prog (mBuildS 22 2 #[(0,(.int .i64 500)),(1,(.int .i64 600))]) w (pk K) fun t14 w=>
 DoX prog (mBuild 26 #[(0,(.string ⟨#[72]⟩)),(2,(.int .i64 65)),(3,t14),(4,(.int .i64 250))]) w (pk K) fun t15 w=>
 DoX prog (mAlloc 26) w (pk K) fun t1 w=>
 DoX prog (mStore 26 t1 t15) w (pk K) fun _ w=>
 HeldX w (fun S1 w=>
 HDo prog S1 (mLoad 26 t1) fun t18=>
 (CallX prog 22 #[] w (pm1 (pm1 (pm1 (pm1 (pm1 (pm1 (pk K))))))) fun t17 w=>
 S1 w∧((CallX prog 21 #[t17,t18] w (pm1 (pm1 (pm1 (pm1 (pm1 (pm1 (pk K))))))) fun t19 w=>
 (HDo prog (fun _=>True) (mExt t19 0) fun t20=>
 HDo prog (fun _=>True) (mExt t19 1) fun t21=>
 HDo prog (fun _=>True) (mExt t19 2) fun t22=>
 (DoX prog (mAlloc 50) w (pm1 (pm1 (pm1 (pm1 (pm1 (pm1 (pk K))))))) fun t2 w=>
 S1 w∧(DoX prog (mAlloc 48) w (pm1 (pm1 (pm1 (pm1 (pm1 (pm1 (pk K))))))) fun t3 w=>
 S1 w∧(DoX prog (mStore 50 t2 t20) w (pm1 (pm1 (pm1 (pm1 (pm1 (pm1 (pk K))))))) fun _ w=>
 (DoX prog (mStore 48 t3 t21) w (pm1 (pm1 (pm1 (pm1 (pm1 (pm1 (pk K))))))) fun _ w=>
 (S_foliantlaw47_lives_0 t1 t2 t3 t22 w K)))))∧(DoX prog (mAlloc 48) w (pm1 (pm1 (pm1 (pm1 (pm1 (pm1 (pk K))))))) fun t3_1 w=>
 S1 w∧(DoX prog (mAlloc 50) w (pm1 (pm1 (pm1 (pm1 (pm1 (pm1 (pk K))))))) fun t2_1 w=>
 S1 w∧(DoX prog (mStore 50 t2_1 t20) w (pm1 (pm1 (pm1 (pm1 (pm1 (pm1 (pk K))))))) fun _ w=>
 (DoX prog (mStore 48 t3_1 t21) w (pm1 (pm1 (pm1 (pm1 (pm1 (pm1 (pk K))))))) fun _ w=>
 (S_foliantlaw47_lives_0 t1 t2_1 t3_1 t22 w K)))))))∧(DoX prog (mAlloc 50) w (pm1 (pm1 (pm1 (pm1 (pm1 (pm1 (pk K))))))) fun t2_2 w=>
 S1 w∧(S_foliantlaw47_lives_h0 S1 t1 t2_2 t17 t18 w K))∧(DoX prog (mAlloc 48) w (pm1 (pm1 (pm1 (pm1 (pm1 (pm1 (pk K))))))) fun t3_2 w=>
 S1 w∧(S_foliantlaw47_lives_h1 S1 t1 t3_2 t17 t18 w K))))∧(DoX prog (mAlloc 50) w (pm1 (pm1 (pm1 (pm1 (pm1 (pm1 (pk K))))))) fun t2_3 w=>
 S1 w∧((CallX prog 22 #[] w (pm1 (pm1 (pm1 (pm1 (pm1 (pm1 (pk K))))))) fun t17_1 w=>
 S1 w∧(S_foliantlaw47_lives_h0 S1 t1 t2_3 t17_1 t18 w K))∧(DoX prog (mAlloc 48) w (pm1 (pm1 (pm1 (pm1 (pm1 (pm1 (pk K))))))) fun t3_3 w=>
 S1 w∧(CallX prog 22 #[] w (pm1 (pm1 (pm1 (pm1 (pm1 (pm1 (pk K))))))) fun t17_2 w=>
 S1 w∧(CallX prog 21 #[t17_2,t18] w (pm1 (pm1 (pm1 (pm1 (pm1 (pm1 (pk K))))))) fun t19_1 w=>
 (HDo prog (fun _=>True) (mExt t19_1 0) fun t20_1=>
 HDo prog (fun _=>True) (mExt t19_1 1) fun t21_1=>
 HDo prog (fun _=>True) (mExt t19_1 2) fun t22_1=>
 DoX prog (mStore 50 t2_3 t20_1) w (pm1 (pm1 (pm1 (pm1 (pm1 (pm1 (pk K))))))) fun _ w=>
 (DoX prog (mStore 48 t3_3 t21_1) w (pm1 (pm1 (pm1 (pm1 (pm1 (pm1 (pk K))))))) fun _ w=>
 (S_foliantlaw47_lives_0 t1 t2_3 t3_3 t22_1 w K))))))))∧(DoX prog (mAlloc 48) w (pm1 (pm1 (pm1 (pm1 (pm1 (pm1 (pk K))))))) fun t3_4 w=>
 S1 w∧((CallX prog 22 #[] w (pm1 (pm1 (pm1 (pm1 (pm1 (pm1 (pk K))))))) fun t17_3 w=>
 S1 w∧(S_foliantlaw47_lives_h1 S1 t1 t3_4 t17_3 t18 w K))∧(DoX prog (mAlloc 50) w (pm1 (pm1 (pm1 (pm1 (pm1 (pm1 (pk K))))))) fun t2_4 w=>
 S1 w∧(CallX prog 22 #[] w (pm1 (pm1 (pm1 (pm1 (pm1 (pm1 (pk K))))))) fun t17_4 w=>
 S1 w∧(CallX prog 21 #[t17_4,t18] w (pm1 (pm1 (pm1 (pm1 (pm1 (pm1 (pk K))))))) fun t19_2 w=>
 (HDo prog (fun _=>True) (mExt t19_2 0) fun t20_2=>
 HDo prog (fun _=>True) (mExt t19_2 1) fun t21_2=>
 HDo prog (fun _=>True) (mExt t19_2 2) fun t22_2=>
 DoX prog (mStore 50 t2_4 t20_2) w (pm1 (pm1 (pm1 (pm1 (pm1 (pm1 (pk K))))))) fun _ w=>
 (DoX prog (mStore 48 t3_4 t21_2) w (pm1 (pm1 (pm1 (pm1 (pm1 (pm1 (pk K))))))) fun _ w=>
 (S_foliantlaw47_lives_0 t1 t2_4 t3_4 t22_2 w K)))))))))
theorem S_foliantlaw47_lives_eq (w:World)(K:Ending→World→Prop):wpX prog 139 [] [] none (bodyOf Tryz.f6) (topQ prog [.tmp 0] K) (startX []) [] w=S_foliantlaw47_lives w K:=by kernel_rfl
theorem S_foliantlaw47_lives_ok {w:World}{K:Ending→World→Prop}(h:S_foliantlaw47_lives w K):Calls prog 6 #[] w K:=
 calls_of_wpX Tryz.func6 rfl rfl rfl rfl (Eq.mpr (S_foliantlaw47_lives_eq w K) h)
def S_foliantlaw47_sample_0 (t0:Value)(w:World)(K:Ending→World→Prop):Prop:=
 RetX prog [.cell t0 50] w K
def S_foliantlaw47_sample_h1 (S1:World→Prop)(t0 t7 t9 t10:Value)(w:World)(K:Ending→World→Prop):Prop:=
 (DoX prog (mBuildS 45 1 #[(0,t7)]) w (pm1 (pm1 (pm1 (pk K)))) fun t8_1 w=>
 (DoX prog (mBuildS 46 1 #[(0,t10)]) w (pm1 (pm1 (pm1 (pk K)))) fun t11_1 w=>
 S1 w∧(HDo prog (fun _=>True) (mBuild 48 #[(0,(.int .i64 7)),(4,t9),(5,t11_1)]) fun t12_1=>
 HDo prog (fun _=>True) (mBuild 50 #[(0,t8_1),(1,t12_1)]) fun t13_1=>
 DoX prog (mStore 50 t0 t13_1) w (pm1 (pm1 (pm1 (pk K)))) fun _ w=>
 (S_foliantlaw47_sample_0 t0 w K))))∧(DoX prog (mBuildS 46 1 #[(0,t10)]) w (pm1 (pm1 (pm1 (pk K)))) fun t11_2 w=>
 S1 w∧(HDo prog (fun _=>True) (mBuild 48 #[(0,(.int .i64 7)),(4,t9),(5,t11_2)]) fun t12_2=>
 DoX prog (mBuildS 45 1 #[(0,t7)]) w (pm1 (pm1 (pm1 (pk K)))) fun t8_2 w=>
 (HDo prog (fun _=>True) (mBuild 50 #[(0,t8_2),(1,t12_2)]) fun t13_2=>
 DoX prog (mStore 50 t0 t13_2) w (pm1 (pm1 (pm1 (pk K)))) fun _ w=>
 (S_foliantlaw47_sample_0 t0 w K))))
def S_foliantlaw47_sample_h0 (S1:World→Prop)(t0 t8 t10:Value)(w:World)(K:Ending→World→Prop):Prop:=
 (DoX prog (mBuildS 23 1 #[(0,(.string ⟨#[82,111,111,116]⟩))]) w (pm1 (pm1 (pm1 (pk K)))) fun t9_1 w=>
 S1 w∧(DoX prog (mBuildS 46 1 #[(0,t10)]) w (pm1 (pm1 (pm1 (pk K)))) fun t11_1 w=>
 S1 w∧(HDo prog (fun _=>True) (mBuild 48 #[(0,(.int .i64 7)),(4,t9_1),(5,t11_1)]) fun t12_1=>
 HDo prog (fun _=>True) (mBuild 50 #[(0,t8),(1,t12_1)]) fun t13_1=>
 DoX prog (mStore 50 t0 t13_1) w (pm1 (pm1 (pm1 (pk K)))) fun _ w=>
 (S_foliantlaw47_sample_0 t0 w K))))∧(DoX prog (mBuildS 46 1 #[(0,t10)]) w (pm1 (pm1 (pm1 (pk K)))) fun t11_2 w=>
 S1 w∧(DoX prog (mBuildS 23 1 #[(0,(.string ⟨#[82,111,111,116]⟩))]) w (pm1 (pm1 (pm1 (pk K)))) fun t9_2 w=>
 S1 w∧(HDo prog (fun _=>True) (mBuild 48 #[(0,(.int .i64 7)),(4,t9_2),(5,t11_2)]) fun t12_2=>
 HDo prog (fun _=>True) (mBuild 50 #[(0,t8),(1,t12_2)]) fun t13_2=>
 DoX prog (mStore 50 t0 t13_2) w (pm1 (pm1 (pm1 (pk K)))) fun _ w=>
 (S_foliantlaw47_sample_0 t0 w K))))
def S_foliantlaw47_sample (w:World)(K:Ending→World→Prop):Prop:=
 DoX prog (mAlloc 50) w (pk K) fun t0 w=>
 DoX prog (mBuildS 23 1 #[(0,(.string ⟨#[84,121,112,101]⟩))]) w (pk K) fun t2 w=>
 CallX prog 46 #[(.string ⟨#[67,97,116,97,108,111,103]⟩)] w (pk K) fun t3 w=>
 DoX prog (mBuildS 46 1 #[(0,t3)]) w (pk K) fun t4 w=>
 DoX prog (mBuild 48 #[(0,(.int .i64 7)),(4,t2),(5,t4)]) w (pk K) fun t5 w=>
 DoX prog (mBuild 89 #[(0,(.int .i64 1)),(2,t5)]) w (pk K) fun t6 w=>
 DoX prog (mAlloc 89) w (pk K) fun t1 w=>
 DoX prog (mStore 89 t1 t6) w (pk K) fun _ w=>
 HeldX w (fun S1 w=>
 HDo prog S1 (mLoad 89 t1) fun t7=>
 (DoX prog (mBuildS 45 1 #[(0,t7)]) w (pm1 (pm1 (pm1 (pk K)))) fun t8 w=>
 ((DoX prog (mBuildS 23 1 #[(0,(.string ⟨#[82,111,111,116]⟩))]) w (pm1 (pm1 (pm1 (pk K)))) fun t9 w=>
 S1 w∧(CallX prog 47 #[(.int .i64 1),(.int .i64 0)] w (pm1 (pm1 (pm1 (pk K)))) fun t10 w=>
 S1 w∧(DoX prog (mBuildS 46 1 #[(0,t10)]) w (pm1 (pm1 (pm1 (pk K)))) fun t11 w=>
 S1 w∧(HDo prog (fun _=>True) (mBuild 48 #[(0,(.int .i64 7)),(4,t9),(5,t11)]) fun t12=>
 HDo prog (fun _=>True) (mBuild 50 #[(0,t8),(1,t12)]) fun t13=>
 DoX prog (mStore 50 t0 t13) w (pm1 (pm1 (pm1 (pk K)))) fun _ w=>
 (S_foliantlaw47_sample_0 t0 w K)))))∧(CallX prog 47 #[(.int .i64 1),(.int .i64 0)] w (pm1 (pm1 (pm1 (pk K)))) fun t10_1 w=>
 S1 w∧(S_foliantlaw47_sample_h0 S1 t0 t8 t10_1 w K))))∧(DoX prog (mBuildS 23 1 #[(0,(.string ⟨#[82,111,111,116]⟩))]) w (pm1 (pm1 (pm1 (pk K)))) fun t9_1 w=>
 S1 w∧((DoX prog (mBuildS 45 1 #[(0,t7)]) w (pm1 (pm1 (pm1 (pk K)))) fun t8_1 w=>
 (CallX prog 47 #[(.int .i64 1),(.int .i64 0)] w (pm1 (pm1 (pm1 (pk K)))) fun t10_2 w=>
 S1 w∧(DoX prog (mBuildS 46 1 #[(0,t10_2)]) w (pm1 (pm1 (pm1 (pk K)))) fun t11_1 w=>
 S1 w∧(HDo prog (fun _=>True) (mBuild 48 #[(0,(.int .i64 7)),(4,t9_1),(5,t11_1)]) fun t12_1=>
 HDo prog (fun _=>True) (mBuild 50 #[(0,t8_1),(1,t12_1)]) fun t13_1=>
 DoX prog (mStore 50 t0 t13_1) w (pm1 (pm1 (pm1 (pk K)))) fun _ w=>
 (S_foliantlaw47_sample_0 t0 w K)))))∧(CallX prog 47 #[(.int .i64 1),(.int .i64 0)] w (pm1 (pm1 (pm1 (pk K)))) fun t10_3 w=>
 S1 w∧(S_foliantlaw47_sample_h1 S1 t0 t7 t9_1 t10_3 w K))))∧(CallX prog 47 #[(.int .i64 1),(.int .i64 0)] w (pm1 (pm1 (pm1 (pk K)))) fun t10_4 w=>
 S1 w∧((DoX prog (mBuildS 45 1 #[(0,t7)]) w (pm1 (pm1 (pm1 (pk K)))) fun t8_2 w=>
 (S_foliantlaw47_sample_h0 S1 t0 t8_2 t10_4 w K))∧(DoX prog (mBuildS 23 1 #[(0,(.string ⟨#[82,111,111,116]⟩))]) w (pm1 (pm1 (pm1 (pk K)))) fun t9_2 w=>
 S1 w∧(S_foliantlaw47_sample_h1 S1 t0 t7 t9_2 t10_4 w K))∧(DoX prog (mBuildS 46 1 #[(0,t10_4)]) w (pm1 (pm1 (pm1 (pk K)))) fun t11_2 w=>
 S1 w∧((DoX prog (mBuildS 45 1 #[(0,t7)]) w (pm1 (pm1 (pm1 (pk K)))) fun t8_3 w=>
 (DoX prog (mBuildS 23 1 #[(0,(.string ⟨#[82,111,111,116]⟩))]) w (pm1 (pm1 (pm1 (pk K)))) fun t9_3 w=>
 S1 w∧(HDo prog (fun _=>True) (mBuild 48 #[(0,(.int .i64 7)),(4,t9_3),(5,t11_2)]) fun t12_2=>
 HDo prog (fun _=>True) (mBuild 50 #[(0,t8_3),(1,t12_2)]) fun t13_2=>
 DoX prog (mStore 50 t0 t13_2) w (pm1 (pm1 (pm1 (pk K)))) fun _ w=>
 (S_foliantlaw47_sample_0 t0 w K))))∧(DoX prog (mBuildS 23 1 #[(0,(.string ⟨#[82,111,111,116]⟩))]) w (pm1 (pm1 (pm1 (pk K)))) fun t9_4 w=>
 S1 w∧(HDo prog (fun _=>True) (mBuild 48 #[(0,(.int .i64 7)),(4,t9_4),(5,t11_2)]) fun t12_3=>
 DoX prog (mBuildS 45 1 #[(0,t7)]) w (pm1 (pm1 (pm1 (pk K)))) fun t8_4 w=>
 (HDo prog (fun _=>True) (mBuild 50 #[(0,t8_4),(1,t12_3)]) fun t13_3=>
 DoX prog (mStore 50 t0 t13_3) w (pm1 (pm1 (pm1 (pk K)))) fun _ w=>
 (S_foliantlaw47_sample_0 t0 w K)))))))))
theorem S_foliantlaw47_sample_eq (w:World)(K:Ending→World→Prop):wpX prog 14 [] [] none (bodyOf Tryz.f22) (topQ prog [.cell 0 50] K) (startX []) [] w=S_foliantlaw47_sample w K:=by kernel_rfl
theorem S_foliantlaw47_sample_ok {w:World}{K:Ending→World→Prop}(h:S_foliantlaw47_sample w K):Calls prog 22 #[] w K:=
 calls_of_wpX Tryz.func22 rfl rfl rfl rfl (Eq.mpr (S_foliantlaw47_sample_eq w K) h)
def S_foliantlaw47_light_1 (t1 t3 t5:Value)(w:World)(N2:List Value→World→Prop)(K:Ending→World→Prop):Prop:=
 DoX prog (mFA 26 t1 6) w (pk K) fun t25 w=>
 DoX prog (mLoad 24 t25) w (pk K) fun t26 w=>
 DoX prog (mB .len #[24] 3 #[false] #[t26]) w (pk K) fun t27 w=>
 DoX prog (mBin .lss 3 t5 t27) w (pk K) fun t28 w=>
 IfX t28 (DoX prog (mFA 26 t1 6) w (pk K) fun t32 w=>
 DoX prog (mLoad 24 t32) w (pk K) fun t33 w=>
 DoX prog (mIA 24 t33 t5) w (pk K) fun t35 w=>
 DoX prog (mFA 44 t35 1) w (pk K) fun t36 w=>
 DoX prog (mLoad 9 t36) w (pk K) fun t37 w=>
 DoX prog (mB .len #[9] 3 #[false] #[t37]) w (pk K) fun t38 w=>
 DoX prog (mBin .add 3 t3 t38) w (pk K) fun t39 w=>
 DoX prog (mBin .add 3 t5 (.int .i64 1)) w (pk K) fun t30 w=>
 N2 [t39,t30] w) (DoX prog (mBin .leq 3 t3 (.int .i64 6000)) w (pk K) fun t41 w=>
 GDo t41 true (fun E=>DoX prog (mFA 26 t1 5) w (pk K) E) w fun t43 w=>
 GDo t41 true (fun E=>DoX prog (mLoad 23 t43) w (pk K) E) w fun t44 w=>
 GDo t41 true (fun E=>DoX prog (mB .len #[23] 3 #[false] #[t44]) w (pk K) E) w fun t45 w=>
 GDo t41 true (fun E=>DoX prog (mBin .leq 3 t45 (.int .i64 300)) w (pk K) E) w fun t46 w=>
 DoX prog (mPick t41 t46 (.bool false)) w (pk K) fun t47 w=>
 GDo t47 true (fun E=>DoX prog (mFA 26 t1 6) w (pk K) E) w fun t49 w=>
 GDo t47 true (fun E=>DoX prog (mLoad 24 t49) w (pk K) E) w fun t50 w=>
 GDo t47 true (fun E=>DoX prog (mB .len #[24] 3 #[false] #[t50]) w (pk K) E) w fun t51 w=>
 GDo t47 true (fun E=>DoX prog (mBin .leq 3 t51 (.int .i64 300)) w (pk K) E) w fun t52 w=>
 DoX prog (mPick t47 t52 (.bool false)) w (pk K) fun t53 w=>
 GDo t53 true (fun E=>DoX prog (mFA 26 t1 3) w (pk K) E) w fun t55 w=>
 GDo t53 true (fun E=>DoX prog (mLoad 22 t55) w (pk K) E) w fun t56 w=>
 GDo t53 true (fun E=>DoX prog (mB .len #[22] 3 #[false] #[t56]) w (pk K) E) w fun t57 w=>
 GDo t53 true (fun E=>DoX prog (mBin .leq 3 t57 (.int .i64 5000)) w (pk K) E) w fun t58 w=>
 DoX prog (mPick t53 t58 (.bool false)) w (pk K) fun t59 w=>
 K (.returned t59) w)
def S_foliantlaw47_light_0 (t1 t3 t4:Value)(w:World)(N1:List Value→World→Prop)(K:Ending→World→Prop):Prop:=
 DoX prog (mFA 26 t1 5) w (pk K) fun t10 w=>
 DoX prog (mLoad 23 t10) w (pk K) fun t11 w=>
 DoX prog (mB .len #[23] 3 #[false] #[t11]) w (pk K) fun t12 w=>
 DoX prog (mBin .lss 3 t4 t12) w (pk K) fun t13 w=>
 IfX t13 (DoX prog (mFA 26 t1 5) w (pk K) fun t17 w=>
 DoX prog (mLoad 23 t17) w (pk K) fun t18 w=>
 DoX prog (mIA 23 t18 t4) w (pk K) fun t20 w=>
 DoX prog (mLoad 9 t20) w (pk K) fun t21 w=>
 DoX prog (mB .len #[9] 3 #[false] #[t21]) w (pk K) fun t22 w=>
 DoX prog (mBin .add 3 t3 t22) w (pk K) fun t23 w=>
 DoX prog (mBin .add 3 t4 (.int .i64 1)) w (pk K) fun t15 w=>
 N1 [t23,t15] w) (LoopX [t3,(.int .i64 0)] w (fun vs2 w N2=>∀_:Sg,S_foliantlaw47_light_1 t1 (vs2.getD 0 undef) (vs2.getD 1 undef) w N2 K))
def S_foliantlaw47_light (t0:Value)(w:World)(K:Ending→World→Prop):Prop:=
 DoX prog (mBox 26 t0) w (pk K) fun t1 w=>
 DoX prog (mFA 26 t1 0) w (pk K) fun t6 w=>
 DoX prog (mLoad 9 t6) w (pk K) fun t7 w=>
 DoX prog (mB .len #[9] 3 #[false] #[t7]) w (pk K) fun t8 w=>
 LoopX [t8,(.int .i64 0)] w (fun vs1 w N1=>∀_:Sg,S_foliantlaw47_light_0 t1 (vs1.getD 0 undef) (vs1.getD 1 undef) w N1 K)
theorem S_foliantlaw47_light_eq (t0:Value)(w:World)(K:Ending→World→Prop):wpX prog 60 [] [(3,[3,4]),(7,[3,5])] none (bodyOf Tryz.f5) (topQ prog [.tmp 2] K) (startX [t0]) [] w=S_foliantlaw47_light t0 w K:=by kernel_rfl
theorem S_foliantlaw47_light_ok {t0:Value}{w:World}{K:Ending→World→Prop}(h:S_foliantlaw47_light t0 w K):Calls prog 5 #[t0] w K:=
 calls_of_wpX Tryz.func5 rfl rfl rfl rfl (Eq.mpr (S_foliantlaw47_light_eq t0 w K) h)
def S_foliantlaw47_FontEach_3 (t12 t128:Value)(w:World)(N5:List Value→World→Prop)(K:Ending→World→Prop):Prop:=
 IfX t128 (K (.returned (.bool false)) w) (DoX prog (mBin .add 3 t12 (.int .i64 1)) w (pk K) fun t111 w=>
 N5 [t111] w)
def S_foliantlaw47_FontEach_2 (t11 t12:Value)(w:World)(N5:List Value→World→Prop)(K:Ending→World→Prop):Prop:=
 DoX prog (mB .len #[23] 3 #[false] #[t11]) w (pk K) fun t108 w=>
 DoX prog (mBin .lss 3 t12 t108) w (pk K) fun t109 w=>
 IfX t109 (HeldX w (fun S6 w=>
 HDo prog S6 (mIA 23 t11 t12) fun t114=>
 HDo prog S6 (mLoad 9 t114) fun t115=>
 HDo prog S6 (mEq .neq 9 (.tmp 115) (.const (.string ⟨#[]⟩)) t115 (.string ⟨#[]⟩)) fun t116=>
 GQ t116 true (fun E=>E t11) fun t118=>
 GQ t116 true (fun E=>E t12) fun t119=>
 GQ t116 true (fun E=>HDo prog S6 (mIA 23 t118 t119) E) fun t120=>
 GQ t116 true (fun E=>HDo prog S6 (mLoad 9 t120) E) fun t121=>
 GQ t116 true (fun E=>E t12) fun t123=>
 GQ t116 true (fun E=>HDo prog S6 (mConv 3 5 t123) E) fun t124=>
 (GDo t116 true (fun E=>CallX prog 14 #[t121] w (pm1 (pm1 (pm1 (pm1 (pm1 (pm1 (pm1 (pm1 (pm1 (pm1 (pm1 (pm1 (pm1 (pm1 (pk K))))))))))))))) E) w fun t122 w=>
 S6 w∧(GDo t116 true (fun E=>DoX prog (mBuildS 41 1 #[(0,t124)]) w (pm1 (pm1 (pm1 (pm1 (pm1 (pm1 (pm1 (pm1 (pm1 (pm1 (pm1 (pm1 (pm1 (pm1 (pk K))))))))))))))) E) w fun t125 w=>
 S6 w∧(GDo t116 true (fun E=>DoX prog (mConv 41 9 t125) w (pm1 (pm1 (pm1 (pm1 (pm1 (pm1 (pm1 (pm1 (pm1 (pm1 (pm1 (pm1 (pm1 (pm1 (pk K))))))))))))))) E) w fun t126 w=>
 S6 w∧(GQ t116 true (fun E=>HDo prog S6 (mEq .neq 9 (.tmp 122) (.tmp 126) t122 t126) E) fun t127=>
 HDo prog S6 (mPick t116 t127 (.bool false)) fun t128=>
 S_foliantlaw47_FontEach_3 t12 t128 w N5 K))))∧(GDo t116 true (fun E=>DoX prog (mBuildS 41 1 #[(0,t124)]) w (pm1 (pm1 (pm1 (pm1 (pm1 (pm1 (pm1 (pm1 (pm1 (pm1 (pm1 (pm1 (pm1 (pm1 (pk K))))))))))))))) E) w fun t125_1 w=>
 S6 w∧((GDo t116 true (fun E=>CallX prog 14 #[t121] w (pm1 (pm1 (pm1 (pm1 (pm1 (pm1 (pm1 (pm1 (pm1 (pm1 (pm1 (pm1 (pm1 (pm1 (pk K))))))))))))))) E) w fun t122_1 w=>
 S6 w∧(GDo t116 true (fun E=>DoX prog (mConv 41 9 t125_1) w (pm1 (pm1 (pm1 (pm1 (pm1 (pm1 (pm1 (pm1 (pm1 (pm1 (pm1 (pm1 (pm1 (pm1 (pk K))))))))))))))) E) w fun t126_1 w=>
 S6 w∧(GQ t116 true (fun E=>HDo prog S6 (mEq .neq 9 (.tmp 122) (.tmp 126) t122_1 t126_1) E) fun t127_1=>
 HDo prog S6 (mPick t116 t127_1 (.bool false)) fun t128_1=>
 S_foliantlaw47_FontEach_3 t12 t128_1 w N5 K)))∧(GDo t116 true (fun E=>DoX prog (mConv 41 9 t125_1) w (pm1 (pm1 (pm1 (pm1 (pm1 (pm1 (pm1 (pm1 (pm1 (pm1 (pm1 (pm1 (pm1 (pm1 (pk K))))))))))))))) E) w fun t126_2 w=>
 S6 w∧(GDo t116 true (fun E=>CallX prog 14 #[t121] w (pm1 (pm1 (pm1 (pm1 (pm1 (pm1 (pm1 (pm1 (pm1 (pm1 (pm1 (pm1 (pm1 (pm1 (pk K))))))))))))))) E) w fun t122_2 w=>
 S6 w∧(GQ t116 true (fun E=>HDo prog S6 (mEq .neq 9 (.tmp 122) (.tmp 126) t122_2 t126_2) E) fun t127_2=>
 HDo prog S6 (mPick t116 t127_2 (.bool false)) fun t128_2=>
 S_foliantlaw47_FontEach_3 t12 t128_2 w N5 K))))))) (DoX prog (mB .len #[23] 3 #[false] #[t11]) w (pk K) fun t130 w=>
 DoX prog (mEq .eql 3 (.tmp 130) (.const (.int .i64 256)) t130 (.int .i64 256)) w (pk K) fun t131 w=>
 GDo t131 true (fun E=>CallX prog 6 #[] w (pk K) E) w fun t133 w=>
 DoX prog (mPick t131 t133 (.bool false)) w (pk K) fun t134 w=>
 K (.returned t134) w)
def S_foliantlaw47_FontEach_1 (t1 t2 t5 t8 t9:Value)(w:World)(N2:List Value→World→Prop)(K:Ending→World→Prop):Prop:=
 DoX prog (mB .len #[29] 3 #[false] #[t5]) w (pk K) fun t56 w=>
 DoX prog (mBin .lss 3 t9 t56) w (pk K) fun t57 w=>
 IfX t57 (QuietX w (fun C3=>
 QDo prog C3 (mLoad 26 t2) fun t60=>
 QDo prog C3 (mIA 29 t5 t9) fun t63=>
 QDo prog C3 (mLoad 3 t63) fun t64=>
 QCall prog C3 10 #[t60,t64] fun t65=>
 ∀w,C3 w →
 QuietX w (fun C4=>
 QDo prog C4 (mIA 29 t5 t9) fun t68=>
 QDo prog C4 (mLoad 3 t68) fun t69=>
 QDo prog C4 (mBin .lss 3 t69 (.int .i64 0)) fun t70=>
 GQ t70 false (fun E=>E t5) fun t72=>
 GQ t70 false (fun E=>E t9) fun t73=>
 GQ t70 false (fun E=>QDo prog C4 (mIA 29 t72 t73) E) fun t74=>
 GQ t70 false (fun E=>QDo prog C4 (mLoad 3 t74) E) fun t75=>
 GQ t70 false (fun E=>QDo prog C4 (mBin .gtr 3 t75 (.int .i64 65535)) E) fun t76=>
 QDo prog C4 (mPick t70 (.bool true) t76) fun t77=>
 GQ t77 false (fun E=>QDo prog C4 (mFA 26 t2 1) E) fun t79=>
 GQ t77 false (fun E=>QDo prog C4 (mLoad 4 t79) E) fun t80=>
 GQ t77 false (fun E=>QDo prog C4 (mUn .not t80) E) fun t81=>
 GQ t77 false (fun E=>E t81) fun t82=>
 GQ t82 true (fun E=>E t5) fun t83=>
 GQ t82 true (fun E=>E t9) fun t84=>
 GQ t82 true (fun E=>QDo prog C4 (mIA 29 t83 t84) E) fun t85=>
 GQ t82 true (fun E=>QDo prog C4 (mLoad 3 t85) E) fun t86=>
 GQ t82 true (fun E=>E t1) fun t87=>
 GQ t82 true (fun E=>E t9) fun t88=>
 GQ t82 true (fun E=>QDo prog C4 (mIx 9 t87 t88) E) fun t89=>
 GQ t82 true (fun E=>QDo prog C4 (mConv 5 3 t89) E) fun t90=>
 GQ t82 true (fun E=>QDo prog C4 (mEq .neq 3 (.tmp 86) (.tmp 90) t86 t90) E) fun t91=>
 GQ t77 false (fun E=>QDo prog C4 (mPick t82 t91 (.bool false)) E) fun t92=>
 QDo prog C4 (mPick t77 (.bool true) t92) fun t93=>
 GQ t93 false (fun E=>E t8) fun t95=>
 GQ t93 false (fun E=>E t95) fun t96=>
 GQ t96 true (fun E=>E t65) fun t97=>
 GQ t96 true (fun E=>QDo prog C4 (mBin .lss 2 t97 (.int .i64 0)) E) fun t98=>
 GQ t96 true (fun E=>E t98) fun t99=>
 GQ t99 false (fun E=>E t65) fun t100=>
 GQ t99 false (fun E=>QDo prog C4 (mBin .gtr 2 t100 (.int .i64 100000)) E) fun t101=>
 GQ t96 true (fun E=>QDo prog C4 (mPick t99 (.bool true) t101) E) fun t102=>
 GQ t93 false (fun E=>QDo prog C4 (mPick t96 t102 (.bool false)) E) fun t103=>
 QDo prog C4 (mPick t93 (.bool true) t103) fun t104=>
 ∀w,C4 w →
 IfX t104 (K (.returned (.bool false)) w) (DoX prog (mBin .add 3 t9 (.int .i64 1)) w (pk K) fun t59 w=>
 N2 [t59] w)))) (CallX prog 19 #[] w (pk K) fun t105 w=>
 LoopX [(.int .i64 0)] w (fun vs5 w N5=>∀_:Sg,S_foliantlaw47_FontEach_2 t105 (vs5.getD 0 undef) w N5 K))
def S_foliantlaw47_FontEach_0 (t1 t2 t5 t7:Value)(w:World)(K:Ending→World→Prop):Prop:=
 DoX prog (mB .len #[29] 3 #[false] #[t5]) w (pk K) fun t48 w=>
 DoX prog (mEq .neq 3 (.tmp 48) (.tmp 49) t48 t7) w (pk K) fun t50 w=>
 IfX t50 (K (.returned (.bool false)) w) (DoX prog (mLoad 26 t2) w (pk K) fun t51 w=>
 CallX prog 16 #[t51] w (pk K) fun t52 w=>
 DoX prog (mEq .eql 30 (.tmp 52) (.const (.int .i64 0)) t52 (.int .i64 0)) w (pk K) fun t53 w=>
 LoopX [(.int .i64 0)] w (fun vs2 w N2=>∀_:Sg,S_foliantlaw47_FontEach_1 t1 t2 t5 t53 (vs2.getD 0 undef) w N2 K))
def S_foliantlaw47_FontEach (t0 t1:Value)(w:World)(K:Ending→World→Prop):Prop:=
 DoX prog (mBox 26 t0) w (pk K) fun t2 w=>
 DoX prog (mLoad 26 t2) w (pk K) fun t13 w=>
 CallX prog 5 #[t13] w (pk K) fun t14 w=>
 DoX prog (mUn .not t14) w (pk K) fun t15 w=>
 GDo t15 false (fun E=>E t1 w) w fun t17 w=>
 GDo t15 false (fun E=>DoX prog (mB .len #[9] 3 #[false] #[t17]) w (pk K) E) w fun t18 w=>
 GDo t15 false (fun E=>DoX prog (mBin .gtr 3 t18 (.int .i64 300)) w (pk K) E) w fun t19 w=>
 DoX prog (mPick t15 (.bool true) t19) w (pk K) fun t20 w=>
 IfX t20 (CallX prog 6 #[] w (pk K) fun t21 w=>
 K (.returned t21) w) (DoX prog (mLoad 26 t2) w (pk K) fun t23 w=>
 CallX prog 7 #[t23,t1] w (pk K) fun t25 w=>
 DoX prog (mExt t25 0) w (pk K) fun t26 w=>
 DoX prog (mExt t25 1) w (pk K) fun t27 w=>
 DoX prog (mEq .neq 30 (.tmp 28) (.const (.int .i64 0)) t27 (.int .i64 0)) w (pk K) fun t29 w=>
 IfX t29 (DoX prog (mFA 26 t2 1) w (pk K) fun t30 w=>
 DoX prog (mLoad 4 t30) w (pk K) fun t31 w=>
 GDo t31 true (fun E=>E t1 w) w fun t33 w=>
 GDo t31 true (fun E=>DoX prog (mB .len #[9] 3 #[false] #[t33]) w (pk K) E) w fun t34 w=>
 GDo t31 true (fun E=>DoX prog (mBin .rem 3 t34 (.int .i64 2)) w (pk K) E) w fun t35 w=>
 GDo t31 true (fun E=>DoX prog (mEq .eql 3 (.tmp 35) (.const (.int .i64 1)) t35 (.int .i64 1)) w (pk K) E) w fun t36 w=>
 DoX prog (mPick t31 t36 (.bool false)) w (pk K) fun t37 w=>
 GDo t37 true (fun E=>CallX prog 6 #[] w (pk K) E) w fun t39 w=>
 DoX prog (mPick t37 t39 (.bool false)) w (pk K) fun t40 w=>
 K (.returned t40) w) (DoX prog (mB .len #[9] 3 #[false] #[t1]) w (pk K) fun t42 w=>
 JoinX (fun J1=>
 DoX prog (mFA 26 t2 1) w (pk K) fun t43 w=>
 DoX prog (mLoad 4 t43) w (pk K) fun t44 w=>
 IfX t44 (DoX prog (mBin .quo 3 t42 (.int .i64 2)) w (pk K) fun t46 w=>
 J1 [t46] w) (J1 [t42] w)) (fun vs1 w=>∀_:Sg,S_foliantlaw47_FontEach_0 t1 t2 t26 (vs1.getD 0 undef) w K)))
theorem S_foliantlaw47_FontEach_eq (t0 t1:Value)(w:World)(K:Ending→World→Prop):wpX prog 135 [(9,[7])] [(13,[9]),(20,[12])] none (bodyOf Tryz.f4) (topQ prog [.tmp 4] K) (startX [t0,t1]) [] w=S_foliantlaw47_FontEach t0 t1 w K:=by kernel_rfl
theorem S_foliantlaw47_FontEach_ok {t0 t1:Value}{w:World}{K:Ending→World→Prop}(h:S_foliantlaw47_FontEach t0 t1 w K):Calls prog 4 #[t0,t1] w K:=
 calls_of_wpX Tryz.func4 rfl rfl rfl rfl (Eq.mpr (S_foliantlaw47_FontEach_eq t0 t1 w K) h)
end
section
namespace Eng
open Go.RowKit
def Mem.up (M:Mem)(w w':World)(h:M.has w'):Mem:=⟨fun b=>M.A b∨(w.heap.size≤b∧b < w'.heap.size),w',fun b hb=>hb.elim (fun h'=>Mem.bd h h') (fun h'=>h'.2)⟩
section
variable {M:Mem}{w w':World}{L:List Ent}
theorem gives_up (hM:M.has w)(ho:OwnS M.A w w' L)(h:M.has w'):Gives M w w' (M.up w w' h):=by
 refine⟨⟨fun b hb=>.inl hb,h⟩,fun b _=>rfl,fun b hb=>hb.elim .inl fun x=>.inr x.1,ho.grew.os,ho.grew.tape,ho.grew.output,ho.grew.size,fun k hk=>?_⟩;by_cases hA:M.A k
 ·rw[hM k hA];exact h k hA
 ·exact ho.grew.block k hk hA
theorem sla_up (ho:OwnS M.A w w' L)(h:M.has w'){b:Nat}{cs:List Value}{T:TypeId}(hb:Ent.cells b cs T∈L)(sz n:Nat)(hn:cs.length=n*sz):SlA (M.up w w' h).A (M.up w w' h).w (.slice (some ⟨b,0,none⟩) n n) sz n cs:=by
 obtain⟨h1,h2⟩:=ho.all _ hb;refine⟨Sl.cells h1 sz n n hn,fun p l c e _=>?_,fun a l c e=>by injection e with _ e2 e3;omega⟩;cases e;rcases h2 b rfl with h3|h3
 ·exact .inl h3
 ·exact .inr ⟨h3,(Ent.cells b cs T).lt h1 b rfl⟩
end
end Eng
end
section
open Eng Go.RowKit
theorem ov_arr1 {M:Mem}{o:Ob}{k:List UInt8}{kv kc:Value}{cs:List Value}(hk:SlA M.A M.w kv 1 1 [.string ⟨k.toArray⟩])(hc:SlA M.A M.w kc 6 1 cs)(h:OVs M.A M.w cs [o]):OV M.A M.w (obV (.mk 7 0 0 [] [k] [o]) kv kc) (.mk 7 0 0 [] [k] [o]):=
 ObAt.ov (o:=.mk 7 0 0 [] [k] [o]) (cs:=cs) ⟨hk,hc,h⟩
def Lb.catK:List UInt8:=[67,97,116,97,108,111,103]
def Lb.catO:Ob:=ob1 5 0 0 Lb.catK
def Lb.rootO:Ob:=.mk 7 0 0 [] [Dk.typeK] [Lb.catO]
def Lb.itS:It:=⟨1,0,Lb.rootO⟩
def Lb.refO:Ob:=ob1 8 1 0 []
def Lb.trS:Ob:=.mk 7 0 0 [] [Dk.rootK] [Lb.refO]
def Lb.docS:Dc:=⟨[Lb.itS],Lb.trS⟩
abbrev slc1 (b:Nat):Value:=.slice (some ⟨b,0,none⟩) 1 1
def Sx (M:Mem)(w:World)(b0 b1 bK bO:Nat)(W:World)(a b c:Option Nat):Prop:=
 ∃L,OwnS M.A w W (L++[itE b1 Lb.itS (slc1 bK) (slc1 bO),dcE b0 Dk.dc0 nilS nilS nilS,obE bO Lb.catO nilS nilS,.cells bK [.string ⟨Dk.typeK.toArray⟩] 9,.mem M]) ∧
  (∀x,a=some x→itE x Lb.itS (slc1 bK) (slc1 bO)∈L)∧(∀x,b=some x→Ent.cells x [.string ⟨Dk.rootK.toArray⟩] 9∈L)∧(∀x,c=some x→obE x Lb.refO nilS nilS∈L)
def SxS (M:Mem)(w:World)(b0 b1 bK bO:Nat):World→Prop:=fun W=>∃L,OwnS M.A w W (L++[itE b1 Lb.itS (slc1 bK) (slc1 bO),dcE b0 Dk.dc0 nilS nilS nilS,obE bO Lb.catO nilS nilS,.cells bK [.string ⟨Dk.typeK.toArray⟩] 9,.mem M])
section
variable {M:Mem}{w W:World}{b0 b1 bK bO:Nat}{a b c:Option Nat}{PK:PKT}{K:VWP}
theorem sx_s (h:Sx M w b0 b1 bK bO W a b c):SxS M w b0 b1 bK bO W:=by obtain⟨L,h,_⟩:=h;exact⟨L,h⟩
theorem sxA (h:Sx M w b0 b1 bK bO W none b c)(k:∀x W',Sx M w b0 b1 bK bO W' (some x) b c→K (slc1 x) W'):DoX prog (mBuildS 45 1 #[(0,itV Lb.itS (slc1 bK) (slc1 bO))]) W PK K:=by
 obtain⟨L,ho,h1,h2,h3⟩:=h;refine o_its1 Lb.itS rfl rfl ho fun x W' ho=>k x W' ⟨itE x Lb.itS (slc1 bK) (slc1 bO)::L,ho,fun y hy=>?_,fun y hy=>List.mem_cons_of_mem _ (h2 y hy),fun y hy=>List.mem_cons_of_mem _ (h3 y hy)⟩;cases hy;exact List.mem_cons_self ..
theorem sxB (h:Sx M w b0 b1 bK bO W a none c)(k:∀x W',Sx M w b0 b1 bK bO W' a (some x) c→K (slc1 x) W'):DoX prog (mBuildS 23 1 #[(0,(.string ⟨#[82,111,111,116]⟩))]) W PK K:=by
 obtain⟨L,ho,h1,h2,h3⟩:=h;refine o_strb1 Dk.rootK ho fun x W' ho=>k x W' ⟨Ent.cells x [.string ⟨Dk.rootK.toArray⟩] 9::L,ho,fun y hy=>List.mem_cons_of_mem _ (h1 y hy),fun y hy=>?_,fun y hy=>List.mem_cons_of_mem _ (h3 y hy)⟩;cases hy;exact List.mem_cons_self ..
theorem sxC (h:Sx M w b0 b1 bK bO W a b none)(k:∀x W',Sx M w b0 b1 bK bO W' a b (some x)→K (slc1 x) W'):DoX prog (mBuildS 46 1 #[(0,obV Lb.refO nilS nilS)]) W PK K:=by
 obtain⟨L,ho,h1,h2,h3⟩:=h;refine o_obs1 Lb.refO rfl rfl ho fun x W' ho=>k x W' ⟨obE x Lb.refO nilS nilS::L,ho,fun y hy=>List.mem_cons_of_mem _ (h1 y hy),fun y hy=>List.mem_cons_of_mem _ (h2 y hy),fun y hy=>?_⟩;cases hy;exact List.mem_cons_self ..
theorem sxR (h:Sx M w b0 b1 bK bO W a b c)(k:∀W',Sx M w b0 b1 bK bO W' a b c→K (obV Lb.refO nilS nilS) W'):CallX prog 47 #[(.int .i64 1),(.int .i64 0)] W PK K:=by
 obtain⟨L,ho,h1,h2,h3⟩:=h;refine c_below ho (R:=fun v=>v=obV Lb.refO nilS nilS) (rref05_ret 1 0 W) ?_;rintro _ W' rfl ho;exact k W' ⟨L,ho,h1,h2,h3⟩
theorem sxT {x y:Nat}{S:World→Prop}{K:Value→Prop}(k:K (obV Lb.trS (slc1 x) (slc1 y))):HDo prog S (mBuild 48 #[(0,(.int .i64 7)),(4,slc1 x),(5,slc1 y)]) K:=⟨_,fun _ _=>by kernel_rfl,k⟩
theorem sxD {x y z:Nat}{S:World→Prop}{K:Value→Prop}(k:K (dcV Lb.docS (slc1 x) (slc1 y) (slc1 z))):HDo prog S (mBuild 50 #[(0,slc1 x),(1,obV Lb.trS (slc1 y) (slc1 z))]) K:=⟨_,fun _ _=>by kernel_rfl,k⟩
end
theorem sample47_ret0 (M:Mem)(w:World)(hM:M.has w):RetM prog 22 #[] M w (fun r N=>DV N.A N.w r Lb.docS):=by
 refine ret_of fun K hK=>S_foliantlaw47_sample_ok ?_;unfold S_foliantlaw47_sample S_foliantlaw47_sample_h0 S_foliantlaw47_sample_h1;refine o_dca (OwnS.memS hM) fun b0 w1 ho=>?_;refine o_strb1 Dk.typeK ho fun bK w2 ho=>?_;refine c_below ho (R:=fun v=>v=obV Lb.catO nilS nilS) (rkey05_ret Lb.catK w2) ?_;rintro _ w3 rfl ho;refine o_obs1 Lb.catO rfl rfl ho fun bO w4 ho=>?_;have m1:∀{PK:PKT} {K:VWP},DoX prog (mBuild 48 #[(0,(.int .i64 7)),(4,slc1 bK),(5,slc1 bO)]) w4 PK K=K (obV Lb.rootO (slc1 bK) (slc1 bO)) w4:=do_eq (by kernel_rfl);have m2:∀{PK:PKT} {K:VWP},DoX prog (mBuild 89 #[(0,(.int .i64 1)),(2,obV Lb.rootO (slc1 bK) (slc1 bO))]) w4 PK K=K (itV Lb.itS (slc1 bK) (slc1 bO)) w4:=do_eq (by kernel_rfl);rw[m1,m2];refine o_ita ho fun b1 w5 ho=>?_;refine it_put (i':=Lb.itS) (vk':=slc1 bK) (vc':=slc1 bO) 0 rfl rfl ho rfl fun w6 ho=>?_;have ho:OwnS M.A w w6 [itE b1 Lb.itS (slc1 bK) (slc1 bO),obE bO Lb.catO nilS nilS,.cells bK [.string ⟨Dk.typeK.toArray⟩] 9,dcE b0 Dk.dc0 nilS nilS nilS,.mem M]:=ho;have ho:OwnS M.A w w6 [itE b1 Lb.itS (slc1 bK) (slc1 bO),dcE b0 Dk.dc0 nilS nilS nilS,obE bO Lb.catO nilS nilS,.cells bK [.string ⟨Dk.typeK.toArray⟩] 9,.mem M]:=
  ho.perm (List.Perm.cons _ (List.perm_middle (l₁:=[obE bO Lb.catO nilS nilS,.cells bK [.string ⟨Dk.typeK.toArray⟩] 9]) (l₂:=[.mem M])))
 have hst:Sx M w b0 b1 bK bO w6.drew none none none:=⟨[],ho.drew,(fun _ h=>by cases h),(fun _ h=>by cases h),(fun _ h=>by cases h)⟩;refine⟨SxS M w b0 b1 bK bO,sx_s hst,?_⟩;refine⟨itV Lb.itS (slc1 bK) (slc1 bO),fun W' ⟨L,h⟩=>run_load_at (AtV.agg aggIt rfl fun j v hj=>by simpa using cells_cell (h.mem (e:=itE b1 Lb.itS (slc1 bK) (slc1 bO)) (by simp)) hj),?_⟩;have fin:∀(W:World) (x y z:Nat),Sx M w b0 b1 bK bO W (some x) (some y) (some z)→∀(PK:PKT),DoX prog (mStore 50 (.pointer (some ⟨b0,0,none⟩)) (dcV Lb.docS (slc1 x) (slc1 y) (slc1 z))) W PK fun _ W=>S_foliantlaw47_sample_0 (.pointer (some ⟨b0,0,none⟩)) W K:=by
  rintro W x y z ⟨L,ho,h1,h2,h3⟩ PK;have ho:=ho.perm (L':=dcE b0 Dk.dc0 nilS nilS nilS::(L++[itE b1 Lb.itS (slc1 bK) (slc1 bO),obE bO Lb.catO nilS nilS,.cells bK [.string ⟨Dk.typeK.toArray⟩] 9,.mem M])) (by
   rw[show L++[itE b1 Lb.itS (slc1 bK) (slc1 bO),dcE b0 Dk.dc0 nilS nilS nilS,obE bO Lb.catO nilS nilS,.cells bK [.string ⟨Dk.typeK.toArray⟩] 9,.mem M]=(L++[itE b1 Lb.itS (slc1 bK) (slc1 bO)])++dcE b0 Dk.dc0 nilS nilS nilS::[obE bO Lb.catO nilS nilS,.cells bK [.string ⟨Dk.typeK.toArray⟩] 9,.mem M] by simp];refine List.perm_middle.trans ?_;simp)
  refine dc_put (d':=Lb.docS) (vi':=slc1 x) (vk':=slc1 y) (vc':=slc1 z) 0 rfl rfl rfl ho rfl fun W' ho=>?_;unfold S_foliantlaw47_sample_0;have hm:M.has W':=ho.mem (e:=.mem M) (by simp);refine ret_dc 0 ho rfl (hK _ _ ⟨M.up w W' hm,gives_up hM ho hm,?_⟩);have sK:=sla_up ho hm (b:=bK) (cs:=[.string ⟨Dk.typeK.toArray⟩]) (T:=9) (by simp) 1 1 rfl;have sO:=sla_up ho hm (b:=bO) (cs:=obC Lb.catO nilS nilS) (T:=48) (List.mem_cons_of_mem _ (List.mem_append_right _ (by simp[obE]))) 6 1 rfl;have sx:=sla_up ho hm (b:=x) (cs:=itC Lb.itS (slc1 bK) (slc1 bO)) (T:=89) (List.mem_cons_of_mem _ (List.mem_append_left _ (h1 x rfl))) 8 1 rfl;have sy:=sla_up ho hm (b:=y) (cs:=[.string ⟨Dk.rootK.toArray⟩]) (T:=9) (List.mem_cons_of_mem _ (List.mem_append_left _ (h2 y rfl))) 1 1 rfl;have sz:=sla_up ho hm (b:=z) (cs:=obC Lb.refO nilS nilS) (T:=48) (List.mem_cons_of_mem _ (List.mem_append_left _ (h3 z rfl))) 6 1 rfl;have o1:OV (M.up w W' hm).A (M.up w W' hm).w (obV Lb.rootO (slc1 bK) (slc1 bO)) Lb.rootO:=ov_arr1 sK sO (by have:=ovs_cons (A:=(M.up w W' hm).A) (w:=(M.up w W' hm).w) (ov_plain 5 0 0 Lb.catK) OVs.nil;rwa [List.append_nil] at this);have o2:OV (M.up w W' hm).A (M.up w W' hm).w (obV Lb.trS (slc1 y) (slc1 z)) Lb.trS:=ov_arr1 sy sz (by have:=ovs_cons (A:=(M.up w W' hm).A) (w:=(M.up w W' hm).w) (ov_plain 8 1 0 []) OVs.nil;rwa [List.append_nil] at this);exact⟨slc1 x,slc1 y,slc1 z,itC Lb.itS (slc1 bK) (slc1 bO),rfl,sx,ivs_1 o1,o2⟩
 clear hK ho
 repeat' (first
 |exact sx_s (by assumption)|exact fin _ _ _ _ (by assumption) _
 |refine And.intro ?_ ?_
 |refine sxA (by assumption) fun _ _ _=>?_
 |refine sxB (by assumption) fun _ _ _=>?_
 |refine sxC (by assumption) fun _ _ _=>?_
 |refine sxR (by assumption) fun _ _=>?_
 |refine sxT ?_
 |refine sxD ?_)
theorem sample47_ret (M:Mem)(w:World)(hM:M.has w):RetM prog 22 #[] M w (fun r N=>DV N.A N.w r Fo.smpD):=sample47_ret0 M w hM
end
section
open Eng Go.RowKit
theorem int_at47 {M:Mem}{v:Value}{l:List Int}(hs:SlA M.A M.w v 1 l.length (intsW l)){i:Nat}(hi:i < l.length) :
  ∃p,(∀W,(mIA 29 v (.int .i64 (i:Int))).run prog W=.ok (.value (.pointer (some p))) W)∧∀W,M.has W→(mLoad 3 (.pointer (some p))).run prog W=.ok (.value (.int .i64 l[i])) W:=by
 obtain⟨b,off,cap,rfl,_⟩:=sl_open hs.1 (by omega);refine⟨⟨b,off+i,none⟩,fun W=>?_,fun W hk=>?_⟩
 ·have:=run_ia (P:=prog) (T:=29) (b:=b) (off:=off) (cap:=cap) (n:=l.length) (k:=.i64) (i:=(i:Int)) (w:=W) Tryz.underlying29 (show _=some 1 by kernel_rfl) (by omega) (by omega);rw[Int.toNat_natCast,Nat.mul_one] at this;exact this
 ·obtain⟨b',off',cap',he,hc⟩:=sl_open (hs.now hk) (by omega);cases he;exact run_load_cell nInt5 (hc i _ (intsW_get hi))
theorem rsame10_ret (l:List Int)(va vb:Value)(M:Mem)(w:World)(hl:l.length≤1000000000)(hM:M.has w)(ha:SlA M.A M.w va 1 l.length (intsW l))(hb:SlA M.A M.w vb 1 l.length (intsW l)) :
  RetM prog 9 #[va,vb] M w (fun r _=>r=.bool true):=by
 refine retM_of hM fun K hK=>S_foliantref10_Same_ok ?_;unfold S_foliantref10_Same;rw[sl_len Tryz.underlying29 (ha.now hM),sl_len Tryz.underlying29 (hb.now hM)];simp only[rs,ne_eq,not_true_eq_false,decide_false,i_f];refine loop (fun vs W=>∃(i:Nat),vs=[.int .i64 (i:Int)]∧i≤l.length∧OwnS M.A w W [.mem M]) (fun vs _=>l.length - n0 vs) ⟨0,rfl,by omega,OwnS.memS hM⟩ ?_;rintro vs w2 ⟨i,rfl,hi,ho⟩ _;simp only[S_foliantref10_Same_0,gd];rw[sl_len Tryz.underlying29 (ha.now (ho.hasM 0 rfl))]
 try simp only[rs]
 by_cases hlt:(i:Int) < (l.length:Int)
 ·simp only[decide_eq_true hlt,rs];rw[sl_len Tryz.underlying29 (hb.now (ho.hasM 0 rfl))];simp only[rs,decide_eq_true hlt,i_t];have hi':i < l.length:=by omega
  obtain⟨p,ip,lp⟩:=int_at47 ha hi';obtain⟨q,iq,lq⟩:=int_at47 hb hi';refine quiet ?_;refine q_do _ ip (q_at _ (fun W hg=>lp W ((ho.grow hg).hasM 0 rfl)) (q_do _ iq (q_at _ (fun W hg=>lq W ((ho.grow hg).hasM 0 rfl)) (q_ne ?_))));intro w3 hg;simp only[ne_eq,not_true_eq_false,decide_false,i_f]
  try simp only[rs]
  rw[wrap64_id (by omega) (by omega)];exact nextX ⟨i+1,rfl,by omega,ho.grow hg⟩ (by simp[n0,RowKit.intOf];omega)
 simp only[decide_eq_false hlt,rs,g_un,i_f];exact hK _ _ M _ 0 ho rfl M.le_refl rfl
end
section
open Eng Go.RowKit
def Fo.fw:Ft:=⟨[],true,0,[],0,[],[]⟩
theorem ft0_at (M:Mem)(n:List UInt8)(q:Bool)(a m:Int):FtAt M ⟨n,q,a,[],m,[],[]⟩ nilS nilS nilS:=⟨SlA.nil _ _ _ _,SlA.nil _ _ _ _,SlA.nil _ _ _ _⟩
theorem lives47_0 {M N:Mem}{w W:World}{K:Ending→World→Prop}{b1 b2 b3:Nat}{vi tk tc wv:Value}{ics:List Value}(hut:UtM M)(hsp:SpM M)(hle:M.le N)(hda:DocAt N.A N.w Fo.smpD1 vi tk tc ics)(hft:FtAt N Fo.smpF wv nilS nilS)
  (ho:OwnS M.A w W [dcE b2 Fo.smpD1 vi tk tc,obE b3 Fo.ref2 nilS nilS,ftE b1 Fo.smpF wv nilS nilS,.mem N]) (hK:∀(W':World) (N':Mem) (L:List Ent) (i:Nat),OwnS M.A w W' L→L[i]?=some (.mem N')→M.le N'→K (.returned (.bool true)) W') :
  S_foliantlaw47_lives_0 (.pointer (some ⟨b1,0,none⟩)) (.pointer (some ⟨b2,0,none⟩)) (.pointer (some ⟨b3,0,none⟩)) (.int .i64 0) W K:=by
 unfold S_foliantlaw47_lives_0;rw[dc_v ho 0 rfl,ob_v ho 1 rfl];have hrd:Fo.readF Fo.smpD1 (Dk.follow Fo.smpD1 Fo.ref2) (Fo.val Fo.smpD1 (Dk.follow Fo.smpD1 Fo.ref2) Fo.kBase).s=Fo.smpF:=by rw[Fo.smp_follow,Fo.smp_base];exact Fo.smp_read
 have h1:=fread47_ret Fo.smpD1 Fo.ref2 (dcV Fo.smpD1 vi tk tc) (obV Fo.ref2 nilS nilS) N W (hut.le hle) (by rw[Fo.smp_follow];exact Fo.smp_reads) (by decide) (ho.hasM 3 rfl) hda.dv (ob1_ovM N 8 2 0 []);rw[hrd] at h1;refine c_mem ho 3 rfl h1 ?_;rintro _ N2 w2 l2 ⟨wv2,rfl,hft2⟩ ho;simp only[ex];refine o_fta ho fun b5 w3 ho=>?_;refine ft_put 0 (g:=Fo.smpF) hft2.ws.one rfl rfl ho rfl fun w4 ho=>?_;have ho:OwnS M.A w w4 [ftE b5 Fo.smpF wv2 nilS nilS,dcE b2 Fo.smpD1 vi tk tc,obE b3 Fo.ref2 nilS nilS,ftE b1 Fo.smpF wv nilS nilS,.mem N2]:=ho;refine do_val (ftV Fo.fw nilS nilS nilS) (by kernel_rfl) ?_;refine c_mem ho 4 rfl (fcodes47_ret Fo.fw [1,2] nilS nilS nilS N2 w4 (by decide) (ho.hasM 4 rfl) (ft0_at _ _ _ _ _)) ?_;rintro _ N3 w5 l3 ⟨c1,rfl,hc1⟩ ho;rw[show Fo.codes Fo.fw [1,2]=([258],0) by decide] at hc1 ⊢;simp only[ex];refine do_val (ftV Fo.fw nilS nilS nilS) (by kernel_rfl) ?_;refine c_mem ho 4 rfl (fcodes47_ret Fo.fw [97] nilS nilS nilS N3 w5 (by decide) (ho.hasM 4 rfl) (ft0_at _ _ _ _ _)) ?_;rintro _ N4 w6 l4 ⟨c2,rfl,hc2⟩ ho;rw[show Fo.codes Fo.fw [97]=([],3) by decide] at hc2 ⊢;simp only[ex];refine c_mem ho 4 rfl (sample47_ret N4 w6 (ho.hasM 4 rfl)) ?_;intro sv N5 w7 l5 hsv ho;refine c_below ho (R:=fun v=>v=obV (ob1 0 0 0 []) nilS nilS) (rnull_ret w7) ?_;rintro _ w8 rfl ho;refine c_mem ho 4 rfl (fread47_f Fo.smpD (ob1 0 0 0 []) sv _ N5 w8 Fo.smpD_ok (by decide) (by decide) (by decide) (ho.hasM 4 rfl) hsv (ob1_ovM N5 0 0 0 [])) ?_;rintro _ N6 w9 l6 rfl ho;simp only[ex];refine o_fta ho fun b11 w10 ho=>?_;refine ft_put 0 (g:=Fo.f0 []) rfl rfl rfl ho rfl fun w11 ho=>?_;have l26:=((l3.trans l4).trans l5).trans l6;have hl6:=hle.trans (l2.trans l26);have ho:OwnS M.A w w11 [ftE b11 (Fo.f0 []) nilS nilS nilS,ftE b5 Fo.smpF wv2 nilS nilS,dcE b2 Fo.smpD1 vi tk tc,obE b3 Fo.ref2 nilS nilS,ftE b1 Fo.smpF wv nilS nilS,.mem N6]:=ho;refine c_mem ho 5 rfl (usual47_ret N6 w11 (hsp.le hl6) (ho.hasM 5 rfl)) ?_;intro us N7 w12 l7 hus ho;have hl7:=hl6.trans l7;have hf1:=hft.le ((l2.trans l26).trans l7);have hf2:=hft2.le (l26.trans l7);simp only[rs,decide_true];rw[fa_o0,ob_k ho 3 rfl];simp only[rs,show decide (Fo.ref2.k=8)=true by decide,decide_true];rw[ft_v ho 4 rfl,ft_v ho 1 rfl];refine c_below ho (R:=fun v=>v=.bool true) (rsame47_ret Fo.smpF wv nilS nilS wv2 nilS nilS N7 w12 rfl (by decide) (by decide) (ho.hasM 5 rfl) hf1 hf2) ?_;rintro _ w13 rfl ho;simp only[rs,decide_true];refine o_ints1 258 ho fun b6 w14 ho=>?_;obtain⟨N8,l8,hs8,ho⟩:=OwnS.freezeU (ho.toU 1 1 1 rfl (by omega) (by omega)) 5 rfl;have l38:=((l4.trans l5).trans l6).trans (l7.trans l8);refine c_mem ho 5 rfl (rsame10_ret [258] c1 _ N8 w14 (by decide) (ho.hasM 5 rfl) (hc1.le l38) hs8) ?_;rintro _ N9 w15 l9 rfl ho;simp only[rs,decide_true];have hus9:=hus.le (l8.trans l9);have hl9:=hl7.trans (l8.trans l9);rw[sl_len Tryz.underlying23 (hus9.now (ho.hasM 5 rfl))];simp only[rs,show decide (((256:Nat):Int)=256)=true by decide];obtain⟨g,off,cap,rfl,hc⟩:=sl_open (hus9.now (ho.hasM 5 rfl)) (by decide);have ho:OwnS M.A w w15 [ftE b11 (Fo.f0 []) nilS nilS nilS,ftE b5 Fo.smpF wv2 nilS nilS,dcE b2 Fo.smpD1 vi tk tc,obE b3 Fo.ref2 nilS nilS,ftE b1 Fo.smpF wv nilS nilS,.mem N9]:=ho;have ia:∀{PK:PKT} {K:VWP} (i:Nat),i < 256→DoX prog (mIA 23 (.slice (some ⟨g,off,none⟩) 256 cap) (.int .i64 (i:Int))) w15 PK K=K (.pointer (some ⟨g,off+i,none⟩)) w15:=by
  intro PK K i hi;have:=run_ia (P:=prog) (T:=23) (b:=g) (off:=off) (cap:=cap) (n:=256) (k:=.i64) (i:=(i:Int)) (w:=w15) Tryz.underlying23 (show _=some 1 by kernel_rfl) (by omega) (by omega);rw[Int.toNat_natCast,Nat.mul_one] at this;exact do_eq this
 rw[show (.int .i64 65:Value)=.int .i64 ((65:Nat):Int) from rfl,ia 65 (by decide),l_cell nStr5 (hc 65 (.string ⟨#[65]⟩) (by rfl))];simp only[rs,decide_true];rw[show (.int .i64 126:Value)=.int .i64 ((126:Nat):Int) from rfl,ia 126 (by decide),l_cell nStr5 (hc 126 (.string ⟨([97,115,99,105,105,116,105,108,100,101]:List UInt8).toArray⟩) (by rfl))];simp only[rs,decide_true];rw[show (.int .i64 31:Value)=.int .i64 ((31:Nat):Int) from rfl,ia 31 (by decide),l_cell nStr5 (hc 31 (.string ⟨#[]⟩) (by rfl))];simp only[rs,decide_true];refine c_mem ho 5 rfl (sign47_ret [117,110,105,48,48,69,57] N9 w15 (hsp.le hl9) (ho.hasM 5 rfl)) ?_;rintro _ NA w16 la rfl ho;rw[show Fo.sign [117,110,105,48,48,69,57]=[195,169] by decide +kernel];simp only[rs,decide_true];refine c_mem ho 5 rfl (sign47_ret [117,110,105,68,56,48,48] NA w16 (hsp.le (hl9.trans la)) (ho.hasM 5 rfl)) ?_;rintro _ NB w17 lb rfl ho;rw[show Fo.sign [117,110,105,68,56,48,48]=[] by decide +kernel];simp only[rs,decide_true];refine c_mem ho 5 rfl (sign47_ret [97,116] NB w17 (hsp.le ((hl9.trans la).trans lb)) (ho.hasM 5 rfl)) ?_;rintro _ NC w18 lc rfl ho;rw[show Fo.sign [97,116]=[64] by decide +kernel];simp only[rs,decide_true];have hlC:=((hl9.trans la).trans lb).trans lc;have hfC:=hf1.le ((((l8.trans l9).trans la).trans lb).trans lc);rw[ft_v ho 4 rfl];refine c_mem ho 5 rfl (fsay47_ret Fo.smpF 65 wv nilS nilS NC w18 (hsp.le hlC) Fo.smpF_ok (ho.hasM 5 rfl) hfC) ?_;rintro _ ND w19 ld rfl ho;rw[show Fo.say Fo.smpF 65=[65] by decide +kernel];simp only[rs,decide_true];rw[ft_v ho 4 rfl];refine c_mem ho 5 rfl (fwidth47_ret Fo.smpF 66 wv nilS nilS ND w19 Fo.smpF_ok (by decide) (ho.hasM 5 rfl) (hfC.le ld)) ?_;rintro _ NE w20 le rfl ho;rw[show Fo.width Fo.smpF 66=600 by decide];simp only[rs,decide_true];rw[ft_v ho 4 rfl];refine c_mem ho 5 rfl (fwidth47_ret Fo.smpF 67 wv nilS nilS NE w20 Fo.smpF_ok (by decide) (ho.hasM 5 rfl) (hfC.le (ld.trans le))) ?_;rintro _ NF w21 lf rfl ho;rw[show Fo.width Fo.smpF 67=250 by decide];simp only[rs,decide_true];rw[ft_v ho 4 rfl];have hlF:=hlC.trans ((ld.trans le).trans lf);refine c_mem ho 5 rfl (fcheck47_ret Fo.smpF wv nilS nilS NF w21 (hut.le hlF) Fo.smpF_ok (ho.hasM 5 rfl) (hfC.le ((ld.trans le).trans lf))) ?_;rintro _ NG w22 lg rfl ho;rw[Fo.smp_fcheck];simp only[rs,decide_true];have hz:∀{PK:PKT} {K:VWP} {W:World},DoX prog (mBuild 26 #[]) W PK K=K (ftV (Fo.f0 []) nilS nilS nilS) W:=fun {PK K W}=>do_eq (by kernel_rfl);rw[hz];refine c_mem ho 5 rfl (fcheck47_ret (Fo.f0 []) nilS nilS nilS NG w22 (hut.le (hlF.trans lg)) ⟨by decide,by decide,by decide,(fun s h=>by cases h),by decide,(fun x h=>by cases h),by decide⟩ (ho.hasM 5 rfl) (ft0_at _ _ _ _ _)) ?_;rintro _ NH w23 lh rfl ho;rw[show Fo.check (Fo.f0 [])=1 by decide];simp only[rs,decide_true];exact hK _ NH _ 5 ho rfl ((hlF.trans lg).trans lh)
end
section
open Eng Go.RowKit
def optD47 (p:Option Nat):List Ent:=match p with|none=>[]|some x=>[dcE x Dk.dc0 nilS nilS nilS]
def optO47 (q:Option Nat):List Ent:=match q with|none=>[]|some x=>[obE x ob0 nilS nilS]
def Sv47 (M:Mem)(w:World)(bf:Nat)(wv:Value)(W:World)(a m:Option Value)(p q:Option Nat):Prop:=
 ∃N:Mem,M.le N∧(∀v,a=some v→DV N.A N.w v Fo.smpD)∧(∀v,m=some v→DV N.A N.w v Fo.smpD1)∧FtAt N Fo.smpF wv nilS nilS∧OwnS M.A w W (optD47 p++(optO47 q++[ftE bf Fo.smpF wv nilS nilS,.mem N]))
section
variable {M:Mem}{w W:World}{bf:Nat}{wv:Value}{a m:Option Value}{p q:Option Nat}{PK PK2:PKT}{K:VWP}
theorem sv_s (h:Sv47 M w bf wv W a m p q):(ftE bf Fo.smpF wv nilS nilS).is W:=by
 obtain⟨N,_,_,_,_,ho⟩:=h;exact ho.mem (e:=ftE bf Fo.smpF wv nilS nilS) (by simp)
theorem svA (h:Sv47 M w bf wv W none m p q)(k:∀v W',Sv47 M w bf wv W' (some v) m p q→K v W'):CallX prog 22 #[] W PK K:=by
 obtain⟨N,hle,ha,hm,hf,ho⟩:=h;have go:∀(j:Nat) {L:List Ent} (L':Mem→List Ent),OwnS M.A w W L→L[j]?=some (.mem N)→(∀N',L.set j (.mem N')=L' N')→(∀N',L' N'=optD47 p++(optO47 q++[ftE bf Fo.smpF wv nilS nilS,.mem N']))→CallX prog 22 #[] W PK K:=by
  intro j L L' ho hj h1 h2;refine c_mem ho j hj (sample47_ret N W (ho.hasM j hj)) ?_;intro v N' W' l hv ho;rw[h1,h2] at ho;exact k v W' ⟨N',hle.trans l,(fun u e=>by cases e;exact hv),(fun u e=>(hm u e).le l),hf.le l,ho⟩
 cases p<;>cases q
 ·exact go 1 _ ho rfl (fun _=>rfl) (fun _=>rfl)
 ·exact go 2 _ ho rfl (fun _=>rfl) (fun _=>rfl)
 ·exact go 2 _ ho rfl (fun _=>rfl) (fun _=>rfl)
 ·exact go 3 _ ho rfl (fun _=>rfl) (fun _=>rfl)
theorem svM {v:Value}(hut:UtM M)(h:Sv47 M w bf wv W (some v) none p q)(k:∀dv W',Sv47 M w bf wv W' (some v) (some dv) p q→K (.tuple #[dv,obV Fo.ref2 nilS nilS,.int .i64 0]) W'):CallX prog 21 #[v,ftV Fo.smpF wv nilS nilS] W PK K:=by
 obtain⟨N,hle,ha,hm,hf,ho⟩:=h;have go:∀(j:Nat) {L:List Ent} (L':Mem→List Ent),OwnS M.A w W L→L[j]?=some (.mem N)→(∀N',L.set j (.mem N')=L' N')→(∀N',L' N'=optD47 p++(optO47 q++[ftE bf Fo.smpF wv nilS nilS,.mem N']))→CallX prog 21 #[v,ftV Fo.smpF wv nilS nilS] W PK K:=by
  intro j L L' ho hj h1 h2;refine c_mem ho j hj (fmake47_ret Fo.smpD Fo.smpF v wv nilS nilS N W (hut.le hle) Fo.smpF_ok rfl rfl rfl Fo.smp_fcheck Fo.smp_addOk Fo.smp_wts (ho.hasM j hj) (ha v rfl) hf) ?_;rintro _ N' W' l ⟨dv,rfl,hdv⟩ ho;rw[h1,h2] at ho;rw[Fo.smp_next];exact k dv W' ⟨N',hle.trans l,(fun u e=>(ha u e).le l),(fun u e=>by cases e;exact hdv),hf.le l,ho⟩
 cases p<;>cases q
 ·exact go 1 _ ho rfl (fun _=>rfl) (fun _=>rfl)
 ·exact go 2 _ ho rfl (fun _=>rfl) (fun _=>rfl)
 ·exact go 2 _ ho rfl (fun _=>rfl) (fun _=>rfl)
 ·exact go 3 _ ho rfl (fun _=>rfl) (fun _=>rfl)
theorem svD (h:Sv47 M w bf wv W a m none q)(k:∀x W',Sv47 M w bf wv W' a m (some x) q→K (.pointer (some ⟨x,0,none⟩)) W'):DoX prog (mAlloc 50) W PK K:=by
 obtain⟨N,hle,ha,hm,hf,ho⟩:=h;exact o_dca ho fun x W' ho=>k x W' ⟨N,hle,ha,hm,hf,ho⟩
theorem svO (h:Sv47 M w bf wv W a m p none)(k:∀x W',Sv47 M w bf wv W' a m p (some x)→K (.pointer (some ⟨x,0,none⟩)) W'):DoX prog (mAlloc 48) W PK K:=by
 obtain⟨N,hle,ha,hm,hf,ho⟩:=h;cases p
 ·exact o_oba ho fun x W' ho=>k x W' ⟨N,hle,ha,hm,hf,ho⟩
 ·exact o_oba ho fun x W' ho=>k x W' ⟨N,hle,ha,hm,hf,OwnS.swap ho⟩
theorem svF {v dv:Value}{x y:Nat}{K:Ending→World→Prop}(hut:UtM M)(hsp:SpM M)(hK:∀(W':World) (N':Mem) (L:List Ent) (i:Nat),OwnS M.A w W' L→L[i]?=some (.mem N')→M.le N'→K (.returned (.bool true)) W')(h:Sv47 M w bf wv W (some v) (some dv) (some x) (some y)) :
  DoX prog (mStore 50 (.pointer (some ⟨x,0,none⟩)) dv) W PK fun _ w=>DoX prog (mStore 48 (.pointer (some ⟨y,0,none⟩)) (obV Fo.ref2 nilS nilS)) w PK2 fun _ w=>
   S_foliantlaw47_lives_0 (.pointer (some ⟨bf,0,none⟩)) (.pointer (some ⟨x,0,none⟩)) (.pointer (some ⟨y,0,none⟩)) (.int .i64 0) w K:=by
 obtain⟨N,hle,ha,hm,hf,ho⟩:=h;obtain⟨vi,tk,tc,ics,rfl,hda⟩:=hm dv rfl;refine dc_put 0 (d':=Fo.smpD1) hda.items.one hda.trailer.oneK hda.trailer.oneC ho rfl fun w1 ho=>?_;refine ob_put (o':=Fo.ref2) 1 rfl rfl ho rfl fun w2 ho=>?_;exact lives47_0 hut hsp hle hda hf ho hK
end
theorem lives47_ret (M:Mem)(w:World)(hut:UtM M)(hsp:SpM M)(hM:M.has w):RetM prog 6 #[] M w (fun r _=>r=.bool true):=by
 refine retM_of hM fun K hK=>S_foliantlaw47_lives_ok ?_;unfold S_foliantlaw47_lives S_foliantlaw47_lives_h0 S_foliantlaw47_lives_h1;refine o_new (fun b=>.slice (some ⟨b,0,none⟩) 2 2) (intsW [500,600]) 2 (fun _=>by kernel_rfl) (OwnS.memS hM) fun b w1 ho=>?_;obtain⟨N,hle,hs,ho⟩:=OwnS.freezeU (ho.toU 1 2 2 rfl (by omega) (by omega)) 0 rfl;refine do_val (ftV Fo.smpF (.slice (some ⟨b,0,none⟩) 2 2) nilS nilS) (by kernel_rfl) ?_;refine o_fta ho fun bf w2 ho=>?_;refine ft_put 0 (g:=Fo.smpF) rfl rfl rfl ho rfl fun w3 ho=>?_;have hft:FtAt N Fo.smpF (.slice (some ⟨b,0,none⟩) 2 2) nilS nilS:=⟨hs,SlA.nil _ _ _ _,SlA.nil _ _ _ _⟩;have hK':∀(W':World) (N':Mem) (L:List Ent) (i:Nat),OwnS M.A w W' L→L[i]?=some (.mem N')→M.le N'→K (.returned (.bool true)) W':=fun W' N' L i ho hi hl=>hK _ _ N' L i ho hi hl rfl;have hst:Sv47 M w bf (.slice (some ⟨b,0,none⟩) 2 2) w3.drew none none none none:=⟨N,hle,(fun _ h=>by cases h),(fun _ h=>by cases h),hft,ho.drew⟩;refine⟨fun W=>(ftE bf Fo.smpF (.slice (some ⟨b,0,none⟩) 2 2) nilS nilS).is W,sv_s hst,?_⟩;refine hd_do (ftV Fo.smpF (.slice (some ⟨b,0,none⟩) 2 2) nilS nilS) (fun W h=>run_load_at (AtV.agg aggFt (cs:=ftC Fo.smpF (.slice (some ⟨b,0,none⟩) 2 2) nilS nilS) rfl fun j v hj=>by rw[Nat.zero_add];exact cells_cell (T:=26) h hj)) ?_;clear ho hK hM
 repeat' (first
 |exact sv_s (by assumption)
 |exact svF hut hsp hK' (by assumption)
 |refine And.intro ?_ ?_
 |refine svA (by assumption) fun _ _ _=>?_
 |refine svM hut (by assumption) fun _ _ _=>?_
 |refine svD (by assumption) fun _ _ _=>?_
 |refine svO (by assumption) fun _ _ _=>?_
 |refine hd_pure _ (fun _=>rfl) ?_)
end
section
open Eng Go.RowKit
theorem str_at47 {M:Mem}{v:Value}{l:List (List UInt8)}(hs:SlA M.A M.w v 1 l.length (strsV l)){i:Nat}(hi:i < l.length) :
  ∃p,(∀W,(mIA 23 v (.int .i64 (i:Int))).run prog W=.ok (.value (.pointer (some p))) W)∧∀W,M.has W→(mLoad 9 (.pointer (some p))).run prog W=.ok (.value (.string ⟨l[i].toArray⟩)) W:=by
 obtain⟨b,off,cap,rfl,_⟩:=sl_open hs.1 (by omega);refine⟨⟨b,off+i,none⟩,fun W=>?_,fun W hk=>?_⟩
 ·have:=run_ia (P:=prog) (T:=23) (b:=b) (off:=off) (cap:=cap) (n:=l.length) (k:=.i64) (i:=(i:Int)) (w:=W) Tryz.underlying23 (show _=some 1 by kernel_rfl) (by omega) (by omega);rw[Int.toNat_natCast,Nat.mul_one] at this;exact this
 ·obtain⟨b',off',cap',he,hc⟩:=sl_open (hs.now hk) (by omega);cases he;exact run_load_cell nStr5 (hc i _ (strsV_get hi))
theorem light47_ret (f:Ft)(wv nv mv:Value)(M:Mem)(w:World)(hok:FtOk f)(hM:M.has w)(h:FtAt M f wv nv mv):RetM prog 5 #[ftV f wv nv mv] M w (fun r _=>∃b,r=.bool b):=by
 refine retM_of hM fun K hK=>S_foliantlaw47_light_ok ?_;unfold S_foliantlaw47_light;have hnl:=hok.nl;have hml:=hok.ml;refine o_ftb f h (OwnS.memS hM) fun b1 w1 ho=>?_;rw[fa_f0,ft_name ho 0 rfl,s_len Tryz.underlying9];refine loop (fun vs W=>∃(z:Int) (i:Nat),vs=[.int .i64 z,.int .i64 (i:Int)]∧i≤f.names.length∧OwnS M.A w W [ftE b1 f wv nv mv,.mem M]) (fun vs _=>f.names.length - n1 vs) ⟨_,0,rfl,by omega,ho⟩ ?_;clear ho;rintro vs w2 ⟨z,i,rfl,hi,ho⟩ _;simp only[S_foliantlaw47_light_0,gd];rw[fa_f5,ft_nms ho 0 rfl,sl_len Tryz.underlying23 (h.ns.now (ho.hasM 1 rfl))]
 try simp only[rs]
 by_cases hlt:(i:Int) < (f.names.length:Int)
 ·simp only[decide_eq_true hlt,i_t];have hi':i < f.names.length:=by omega
  obtain⟨p,ip,lp⟩:=str_at47 h.ns hi';rw[fa_f5,ft_nms ho 0 rfl,do_eq (ip w2),do_eq (lp w2 (ho.hasM 1 rfl)),s_len Tryz.underlying9]
  try simp only[rs]
  rw[wrap64_id (n:=(i:Int)+1) (by omega) (by omega)];exact nextX ⟨_,i+1,rfl,by omega,ho⟩ (by simp[n1,RowKit.intOf];omega)
 simp only[decide_eq_false hlt,i_f];refine loop (fun vs W=>∃(z:Int) (i:Nat),vs=[.int .i64 z,.int .i64 (i:Int)]∧i≤f.maps.length∧OwnS M.A w W [ftE b1 f wv nv mv,.mem M]) (fun vs _=>f.maps.length - n1 vs) ⟨z,0,rfl,by omega,ho⟩ ?_;clear ho;rintro vs w3 ⟨z,j,rfl,hj,ho⟩ _;simp only[S_foliantlaw47_light_1,gd];rw[fa_f6,ft_mps ho 0 rfl,sl_len Tryz.underlying24 (h.ms.now (ho.hasM 1 rfl))]
 try simp only[rs]
 by_cases hlt2:(j:Int) < (f.maps.length:Int)
 ·simp only[decide_eq_true hlt2,i_t];have hj':j < f.maps.length:=by omega
  obtain⟨b,off,im,cm,_⟩:=mp_cells h.ms hj';rw[fa_f6,ft_mps ho 0 rfl,do_eq (im w3),fa_m1,l_cell nStr5 (cm w3 (ho.hasM 1 rfl)).2,s_len Tryz.underlying9]
  try simp only[rs]
  rw[wrap64_id (n:=(j:Int)+1) (by omega) (by omega)];exact nextX ⟨_,j+1,rfl,by omega,ho⟩ (by simp[n1,RowKit.intOf];omega)
 simp only[decide_eq_false hlt2,i_f];have fin:∀q,K (.returned (.bool q)) w3:=fun q=>hK _ _ M _ 1 ho rfl M.le_refl ⟨q,rfl⟩;by_cases g1:z≤6000
 case neg=>
  simp only[decide_eq_false g1,rs,g_un];exact fin _
 simp only[decide_eq_true g1,rs];rw[fa_f5,ft_nms ho 0 rfl,sl_len Tryz.underlying23 (h.ns.now (ho.hasM 1 rfl))]
 try simp only[rs]
 by_cases g2:(f.names.length:Int)≤300
 case neg=>
  simp only[decide_eq_false g2,rs,g_un];exact fin _
 simp only[decide_eq_true g2,rs];rw[fa_f6,ft_mps ho 0 rfl,sl_len Tryz.underlying24 (h.ms.now (ho.hasM 1 rfl))]
 try simp only[rs]
 by_cases g3:(f.maps.length:Int)≤300
 case neg=>
  simp only[decide_eq_false g3,rs,g_un];exact fin _
 simp only[decide_eq_true g3,rs];rw[fa_f3,ft_ws ho 0 rfl,sl_len Tryz.underlying22 (h.ws.now (ho.hasM 1 rfl))]
 try simp only[rs]
 exact fin _
end
end Go.Proofs.YtmkodaephgnehaaGreatDoor

namespace Go.Proofs.YtmkodaephgnehaaGreatDoor
section
open Eng Go.RowKit
namespace Fo
theorem pairs_bd:∀(s:List UInt8),∀x∈pairs s,0≤x∧x≤65535
|[],x,h=>by simp[pairs] at h
|[_],x,h=>by simp[pairs] at h
|a::b::t,x,h=>by
  rw[pairs] at h;rcases List.mem_cons.1 h with rfl|h
  ·have:=a.toNat_lt;have:=b.toNat_lt;omega
  ·exact pairs_bd t x h
theorem codes_odd (f:Ft)(s:List UInt8)(h:(codes f s).2≠0):f.wide=true∧s.length % 2=1:=by
 unfold codes at h;split at h
 ·exact absurd rfl h
 ·split at h
  ·rename_i h1 h2
   exact⟨by simpa using h1,by omega⟩
  ·exact absurd rfl h
theorem codes_zero (f:Ft)(s:List UInt8)(h:(codes f s).2=0):(codes f s).1.length=(if f.wide=true then s.length / 2 else s.length)∧(∀x∈(codes f s).1,0≤x∧x≤65535)∧(f.wide=false→(codes f s).1=s.map fun c=>(c.toNat:Int)):=by
 unfold codes at h ⊢;by_cases hw:f.wide=false
 ·rw[if_pos hw] at h ⊢;refine⟨by simp[hw],fun x hx=>?_,fun _=>rfl⟩;obtain⟨c,_,rfl⟩:=List.mem_map.1 hx;have:=c.toNat_lt;omega
 ·rw[if_neg hw] at h ⊢;have hw':f.wide=true:=by simpa using hw
  by_cases h2:s.length % 2≠0
  ·rw[if_pos h2] at h;exact absurd h (by decide)
  ·rw[if_neg h2] at h ⊢;exact⟨by rw[if_pos hw'];exact pairs_len s,pairs_bd s,fun h=>absurd h hw⟩
theorem wid_bd {n:Int}(h:wid n=true):0≤n∧n≤100000:=by
 unfold wid at h;simpa using h
theorem width_bd (f:Ft)(c:Int)(h:check f=0):0≤width f c∧width f c≤100000:=by
 unfold check at h;by_cases hm:may f=false
 ·rw[if_pos hm] at h;exact absurd h (by decide)
 ·unfold may at hm;simp only[Bool.not_eq_false,Bool.and_eq_true] at hm;obtain⟨⟨⟨⟨⟨⟨⟨_,_⟩,_⟩,_⟩,hmiss⟩,hws⟩,_⟩,_⟩:=hm;unfold width;by_cases hx:c < f.first∨(f.widths.length:Int)≤c - f.first
  ·rw[if_pos hx];exact wid_bd hmiss
  ·rw[if_neg hx];have hi:(c - f.first).toNat < f.widths.length:=by omega
   rw[List.getD_eq_getElem?_getD,List.getElem?_eq_getElem hi];exact wid_bd (List.all_eq_true.1 hws _ (List.getElem_mem hi))
end Fo
theorem hd_sne47 {P:Program}{S:World→Prop}{K:Value→Prop}{T:TypeId}{xo yo:Operand}{a b:List UInt8}(h:K (.bool (decide (a≠b)))):HDo P S (mEq .neq T xo yo (.string ⟨a.toArray⟩) (.string ⟨b.toArray⟩)) K:=by
 refine hd_pure _ (fun _=>mv_run ?_) h;have e:(a==b)=decide (a=b):=by by_cases h:a=b<;>simp[h]
 simp[eqGuard,binOp,Op.stringOp,str_toList,e]
theorem u8_of47 {i:Nat}(hi:i≤255):IntKind.wrap .u8 (i:Int)=((UInt8.ofNat i).toNat:Int):=by
 have:=lb_l8 (n:=0) (i:=i) (by omega);simpa using this
section
variable {w w0:World}{S:Nat→Prop}{b1:Nat}{f:Ft}{wv nv mv v5:Value}{N3 N5:Mem}{l:List Int}{s:List UInt8}{may:Bool}{K:Ending→World→Prop}
theorem each_one (hok:FtOk f)(h3:FtAt N3 f wv nv mv)(hs:SlA N3.A N3.w v5 1 l.length (intsW l))(hbd:∀x∈l,0≤x∧x≤65535)(hsm:f.wide=false→l=s.map fun c=>(c.toNat:Int))(hmay:may=true→Fo.check f=0){i:Nat}(hi:i < l.length)(hl:l.length≤1000000)
  {N2:List Value→World→Prop} (h:∃N',N3.le N'∧OwnS S w0 w [ftE b1 f wv nv mv,.mem N']) (k:∀W,(∃N',N3.le N'∧OwnS S w0 W [ftE b1 f wv nv mv,.mem N'])→N2 [.int .i64 ((i+1:Nat):Int)] W)
  (kE:∀W,(∃N',N3.le N'∧OwnS S w0 W [ftE b1 f wv nv mv,.mem N'])→CallX prog 19 #[] W (pk K) fun t105 w=>
 LoopX [(.int .i64 0)] w (fun vs5 w N5=>∀_:Sg,S_foliantlaw47_FontEach_2 t105 (vs5.getD 0 undef) w N5 K)) :
  S_foliantlaw47_FontEach_1 (.string ⟨s.toArray⟩) (.pointer (some ⟨b1,0,none⟩)) v5 (.bool may) (.int .i64 (i:Int)) w N2 K:=by
 unfold S_foliantlaw47_FontEach_1;obtain⟨p,ip,lp⟩:=int_at47 hs hi;have hli:=hbd l[i] (List.getElem_mem hi);obtain⟨N',l4,ho⟩:=h;rw[sl_len Tryz.underlying29 ((hs.le l4).now (ho.hasM 1 rfl))]
 try simp only[rs]
 simp only[decide_eq_true (show (i:Int) < (l.length:Int) by omega),i_t];have ql:∀{K':Value→Prop},K' (ftV f wv nv mv)→QDo prog (fun W=>∃N',N3.le N'∧OwnS S w0 W [ftE b1 f wv nv mv,.mem N']) (mLoad 26 (.pointer (some ⟨b1,0,none⟩))) K':=by
  intro K' k;refine q_at _ (fun W hW=>?_) k;obtain⟨N',hl,ho⟩:=hW;exact run_load_at (ho.agg 0 rfl aggFt)
 have qi:∀{K':Value→Prop},K' (.pointer (some p))→QDo prog (fun W=>∃N',N3.le N'∧OwnS S w0 W [ftE b1 f wv nv mv,.mem N']) (mIA 29 v5 (.int .i64 (i:Int))) K':=fun k=>q_do _ ip k;have qv:∀{K':Value→Prop},K' (.int .i64 l[i])→QDo prog (fun W=>∃N',N3.le N'∧OwnS S w0 W [ftE b1 f wv nv mv,.mem N']) (mLoad 3 (.pointer (some p))) K':=by
  intro K' k;refine q_at _ (fun W hW=>?_) k;obtain⟨N',hl,ho⟩:=hW;exact lp W (Mem.has_of hl (ho.hasM 1 rfl))
 refine quietC (fun W=>∃N',N3.le N'∧OwnS S w0 W [ftE b1 f wv nv mv,.mem N']) ⟨N',l4,ho.drew⟩ ?_;refine ql (qi (qv (q_call (.int .i64 (Fo.width f l[i])) (fun W hW=>?_) ?_)))
 ·obtain⟨N',hl,ho⟩:=hW;refine Ret.mono (fwidth47_ret f l[i] wv nv mv N' W hok (by omega) (ho.hasM 1 rfl) (h3.le hl)) fun r W' hh=>?_;obtain⟨N4,g4,rfl⟩:=hh;exact⟨rfl,N4,hl.trans g4.le,ho.gives 1 rfl g4⟩
 clear ho l4;rintro W ⟨N',l4,ho⟩;refine quietC (fun W=>∃N',N3.le N'∧OwnS S w0 W [ftE b1 f wv nv mv,.mem N']) ⟨N',l4,ho.drew⟩ ?_;have fin:∀W,(∃N',N3.le N'∧OwnS S w0 W [ftE b1 f wv nv mv,.mem N'])→IfX (.bool false) (K (.returned (.bool false)) W) (N2 [.int .i64 (IntKind.i64.wrap ((i:Int)+1))] W):=by
  intro W hW;simp only[i_f];rw[wrap64_id (n:=(i:Int)+1) (by omega) (by omega)];exact k W hW
 refine qi (qv (q_lss ?_));simp only[decide_eq_false (show ¬l[i] < 0 by omega),gq];refine qi (qv (q_gtr ?_));simp only[decide_eq_false (show ¬65535 < l[i] by omega),gq];refine q_pf ?_;simp only[gq];refine q_do _ (fun W=>run_fa (o:=1) (by kernel_rfl)) ?_;refine q_at (.bool f.wide) (fun W hW=>?_) ?_
 ·obtain⟨N',hl,ho⟩:=hW;exact run_load_cell nBool47 (ho.cell 0 rfl 1 rfl)
 refine q_do _ (fun _=>r_not) ?_;have tail:∀{K':Value→Prop},K' (.bool false)→(QDo prog (fun W=>∃N',N3.le N'∧OwnS S w0 W [ftE b1 f wv nv mv,.mem N']) (mPick (.bool false) (.bool true) (.bool false)) K'):=fun k=>q_pf k;have mayp:∀{KK:Prop},KK→KK:=fun h=>h;cases hwd:f.wide with
|true=>
  simp only[Bool.not_true,gq];refine q_pf (q_pf ?_);simp only[gq];cases may with
 |false=>
   simp only[gq];exact q_pf (q_pf fin)
 |true=>
   have hwb:=Fo.width_bd f l[i] (hmay rfl);simp only[gq];refine q_lss ?_;simp only[decide_eq_false (show ¬Fo.width f l[i] < 0 by omega),gq];refine q_gtr ?_;simp only[decide_eq_false (show ¬100000 < Fo.width f l[i] by omega),gq];exact q_pf (q_pt (q_pf fin))
|false=>
  have hls:=hsm hwd;have hls2:l.length=s.length:=by rw[hls,List.length_map]
  have hsi:i < s.length:=by omega
  have hlc:l[i]=(s[i].toNat:Int):=by
   have:l[i]?=some (s[i].toNat:Int):=by rw[hls,List.getElem?_map,List.getElem?_eq_getElem hsi];rfl
   rw[List.getElem?_eq_getElem hi] at this;exact Option.some.inj this
  have hcc:=s[i].toNat_lt;simp only[Bool.not_false,gq];refine qi (qv (q_ix (c:=s[i]) Tryz.underlying9 (by omega) (by rw[Int.toNat_natCast];exact List.getElem?_eq_getElem hsi) ?_));refine q_do _ (fun _=>run_c_int (by rw[Tryz.underlying5];rfl) Tryz.underlying3) ?_;rw[show IntKind.wrap .i64 (s[i].toNat:Int)=(s[i].toNat:Int) from wrap64_id (by omega) (by omega)];refine q_ne ?_;simp only[decide_eq_false (show ¬(l[i]≠(s[i].toNat:Int)) from fun hh=>hh hlc),gq];refine q_pt (q_pf ?_);simp only[gq];cases may with
 |false=>
   simp only[gq];exact q_pf (q_pf fin)
 |true=>
   have hwb:=Fo.width_bd f l[i] (hmay rfl);simp only[gq];refine q_lss ?_;simp only[decide_eq_false (show ¬Fo.width f l[i] < 0 by omega),gq];refine q_gtr ?_;simp only[decide_eq_false (show ¬100000 < Fo.width f l[i] by omega),gq];exact q_pf (q_pt (q_pf fin))
theorem each_name {L:List Ent}(hsp:SpM N5)(hs:SlA N5.A N5.w v5 1 256 (strsV Fo.usual)){i:Nat}(hi:i < 256){J:List Value→World→Prop}
  (h:∃N',N5.le N'∧OwnS S w0 w (.mem N'::L)) (k:∀W,(∃N',N5.le N'∧OwnS S w0 W (.mem N'::L))→J [.int .i64 ((i+1:Nat):Int)] W) :
  S_foliantlaw47_FontEach_2 v5 (.int .i64 (i:Int)) w J K:=by
 unfold S_foliantlaw47_FontEach_2;have hul:=Fo.usual_len;have hi':i < Fo.usual.length:=by omega
 obtain⟨p,ip,lp⟩:=str_at47 (l:=Fo.usual) (by rw[hul];exact hs) hi';obtain⟨N',l4,ho⟩:=h;rw[sl_len Tryz.underlying23 ((hs.le l4).now (ho.hasM 0 rfl))]
 try simp only[rs]
 simp only[decide_eq_true (show (i:Int) < ((256:Nat):Int) by omega),i_t];have fin:∀{W:World},(∃N',N5.le N'∧OwnS S w0 W (.mem N'::L))→S_foliantlaw47_FontEach_3 (.int .i64 (i:Int)) (.bool false) W J K:=by
  intro W hW;unfold S_foliantlaw47_FontEach_3;simp only[i_f,rs];rw[wrap64_id (n:=(i:Int)+1) (by omega) (by omega)];exact k W hW
 have hS:∀{W:World} {i:Nat} {L':List Ent} {N:Mem},OwnS S w0 W L'→L'[i]?=some (.mem N)→N5.le N→N5.has W:=fun ho hi hl=>Mem.has_of hl (ho.hasM _ hi);refine⟨fun W=>N5.has W,hS ho.drew (i:=0) rfl l4,?_⟩;refine hd_pure _ ip (hd_do _ lp ?_);refine hd_sne47 (b:=[]) ?_;by_cases hn:Fo.usual[i]=[]
 ·simp only[decide_eq_false (show ¬(Fo.usual[i]≠[]) from fun hh=>hh hn),gq,g_un,g_ft];refine⟨⟨hS ho.drew (i:=0) rfl l4,hS ho.drew (i:=0) rfl l4,hS ho.drew (i:=0) rfl l4,?_⟩,hS ho.drew (i:=0) rfl l4,⟨hS ho.drew (i:=0) rfl l4,hS ho.drew (i:=0) rfl l4,?_⟩,hS ho.drew (i:=0) rfl l4,hS ho.drew (i:=0) rfl l4,?_⟩ <;>
   exact hd_pure _ (fun _=>rfl) (fin ⟨N',l4,ho.drew⟩)
 simp only[decide_eq_true (show Fo.usual[i]≠[] from hn),gq,g_tt];have hsg:Fo.sign Fo.usual[i]=[UInt8.ofNat i]:=by
  have:=Fo.usual_sign ⟨i,hi⟩;simp only[List.getD_eq_getElem?_getD,List.getElem?_eq_getElem hi',Option.getD_some] at this;exact this hn
 refine hd_pure _ ip (hd_do _ lp (hd_pure (.int .u8 ((UInt8.ofNat i).toNat:Int)) (fun _=>by rw[←u8_of47 (by omega)];exact run_c_int (by rw[Tryz.underlying3];rfl) Tryz.underlying5) ?_));have sg:∀{W:World} {L':List Ent} {N:Mem} {PK':PKT} {K':VWP} (j:Nat),OwnS S w0 W L'→L'[j]?=some (.mem N)→N5.le N→(∀N2 W',N.le N2→OwnS S w0 W' (L'.set j (.mem N2))→K' (.string ⟨[UInt8.ofNat i].toArray⟩) W')→CallX prog 14 #[.string ⟨Fo.usual[i].toArray⟩] W PK' K':=by
  intro W L' N PK' K' j ho hj hl kk;refine c_mem ho j hj (sign47_ret Fo.usual[i] N W (hsp.le hl) (ho.hasM j hj)) ?_;rintro _ N2 W' l2 rfl ho;rw[hsg];exact kk N2 W' l2 ho
 have bd:∀{W:World} {L':List Ent} {PK':PKT} {K':VWP},OwnS S w0 W L'→(∀v W',OwnS S w0 W' (BRow v [UInt8.ofNat i]::L')→K' v W')→DoX prog (mBuildS 41 1 #[(0,.int .u8 ((UInt8.ofNat i).toNat:Int))]) W PK' K':=by
  intro W L' PK' K' ho kk;refine o_new (fun b=>.slice (some ⟨b,0,none⟩) 1 1) (bytesV [UInt8.ofNat i]) 5 (fun _=>by kernel_rfl) ho fun b W' ho=>?_;exact kk _ W' (ho.toRow 1 1 1 rfl (by omega) (by omega))
 have ed:∀{W:World} {j:Nat} {L':List Ent} {N:Mem} {K':Value→Prop},K' (.bool false)→HDo prog (fun W=>N5.has W) (mEq .neq 9 (.tmp 122) (.tmp 126) (.string ⟨[UInt8.ofNat i].toArray⟩) (.string ⟨[UInt8.ofNat i].toArray⟩)) K':=by
  intro W j L' N K' kk;refine hd_sne47 ?_;rw[decide_eq_false (fun hh=>hh rfl)];exact kk
 have drop:∀{W:World} {e:Ent} {N:Mem},N5.le N→OwnS S w0 W (e::.mem N::L)→∃N',N5.le N'∧OwnS S w0 W (.mem N'::L):=by
  intro W e N hl ho;obtain⟨N2,l2,_,_,ho⟩:=ho.freeze 0 rfl;exact⟨N2,hl.trans l2,ho⟩
 refine⟨?_,?_⟩
 ·refine sg 0 ho.drew rfl l4 fun N2 W2 l5 ho=>?_;refine⟨hS ho (i:=0) rfl (l4.trans l5),?_⟩;refine bd ho fun v W3 ho=>⟨hS ho (i:=1) rfl (l4.trans l5),?_⟩;rw[o_strB 0 ho rfl];refine⟨hS ho (i:=1) rfl (l4.trans l5),?_⟩;refine ed (W:=W3) (j:=0) (L':=L) (N:=N2) (hd_pure _ (fun _=>rfl) (fin (drop (l4.trans l5) ho)))
 ·refine bd ho.drew fun v W3 ho=>⟨hS ho (i:=1) rfl l4,?_⟩;refine⟨?_,?_⟩
  ·refine sg 1 ho rfl l4 fun N2 W2 l5 ho=>⟨hS ho (i:=1) rfl (l4.trans l5),?_⟩;have ho:OwnS S w0 W2 (BRow v [UInt8.ofNat i]::.mem N2::L):=ho;rw[o_strB 0 ho rfl];refine⟨hS ho (i:=1) rfl (l4.trans l5),?_⟩;refine ed (W:=W3) (j:=0) (L':=L) (N:=N2) (hd_pure _ (fun _=>rfl) (fin (drop (l4.trans l5) ho)))
  ·rw[o_strB 0 ho rfl];refine⟨hS ho (i:=1) rfl l4,?_⟩;refine sg 1 ho rfl l4 fun N2 W2 l5 ho=>⟨hS ho (i:=1) rfl (l4.trans l5),?_⟩;have ho:OwnS S w0 W2 (BRow v [UInt8.ofNat i]::.mem N2::L):=ho;refine ed (W:=W3) (j:=0) (L':=L) (N:=N2) (hd_pure _ (fun _=>rfl) (fin (drop (l4.trans l5) ho)))
end
theorem fontEach_ret (f:Ft)(s:List UInt8)(wv nv mv:Value)(M:Mem)(w:World)(hut:UtM M)(hsp:SpM M)(hok:FtOk f)(hM:M.has w)(h:FtAt M f wv nv mv) :
  RetM prog 4 #[ftV f wv nv mv,.string ⟨s.toArray⟩] M w (fun r _=>r=.bool true):=by
 refine retM_of hM fun K hK=>S_foliantlaw47_FontEach_ok ?_;unfold S_foliantlaw47_FontEach;refine o_ftb f h (OwnS.memS hM) fun b1 w1 ho=>?_;have lv:∀{W:World} {N:Mem} {L:List Ent} {PK':PKT} {K':VWP} (j:Nat),OwnS M.A w W L→L[j]?=some (Ent.mem N)→M.le N→(∀(W':World) (N':Mem) (L':List Ent) (j':Nat),OwnS M.A w W' L'→L'[j']?=some (Ent.mem N')→M.le N'→K' (.bool true) W')→CallX prog 6 #[] W PK' K':=by
  intro W N L PK' K' j ho hj hle kk;refine c_mem ho j hj (lives47_ret N W (hut.le hle) (hsp.le hle) (ho.hasM j hj)) ?_;rintro _ N2 W2 l2 rfl ho;exact kk W2 N2 _ j ho (by rw[List.getElem?_set_self (List.getElem?_eq_some_iff.1 hj).1]) (hle.trans l2)
 have fin:∀(W':World) (N':Mem) (L':List Ent) (j':Nat),OwnS M.A w W' L'→L'[j']?=some (Ent.mem N')→M.le N'→K (.returned (.bool true)) W':=fun W' N' L' j' ho hj hl=>hK _ _ N' L' j' ho hj hl rfl;rw[ft_v ho 0 rfl];refine c_mem ho 1 rfl (light47_ret f wv nv mv M w1 hok (ho.hasM 1 rfl) h) ?_;rintro _ N w2 hle ⟨q,rfl⟩ ho;have ho:OwnS M.A w w2 [ftE b1 f wv nv mv,.mem N]:=ho;rw[u_not];cases q with
|false=>
  simp only[Bool.not_false,rs,g_un,g_tf,i_t];exact lv 1 ho rfl hle fin
|true=>
 simp only[Bool.not_true,rs];rw[s_len Tryz.underlying9]
 try simp only[rs]
 by_cases h1:300 < (s.length:Int)
 ·simp only[decide_eq_true h1,rs,i_t];exact lv 1 ho rfl hle fin
 simp only[decide_eq_false h1,rs,i_f];rw[ft_v ho 0 rfl];refine c_mem ho 1 rfl (fcodes47_ret f s wv nv mv N w2 (by omega) (ho.hasM 1 rfl) (h.le hle)) ?_;rintro _ N2 w3 l2 ⟨lv2,rfl,hcs⟩ ho;have ho:OwnS M.A w w3 [ftE b1 f wv nv mv,.mem N2]:=ho;simp only[ex];rw[n_err];by_cases hz:(Fo.codes f s).2=0
 case neg=>
  simp only[decide_eq_true hz,i_t];obtain⟨hw,hodd⟩:=Fo.codes_odd f s hz;rw[fa_f1,ft_wide ho 0 rfl,hw];simp only[rs,g_tt];rw[s_len Tryz.underlying9]
  try simp only[rs]
  rw[b_rem (by decide)]
  try simp only[rs]
  have hr:((s.length:Int).tmod 2)=1:=by rw[Int.tmod_eq_emod_of_nonneg (by omega)];omega
  rw[hr];simp only[decide_true,rs,g_tt];refine lv 1 ho rfl (hle.trans l2) fun W' N' L' j' ho hj hl=>?_
  try simp only[rs]
  exact fin _ _ _ _ ho hj hl
 simp only[decide_eq_false (show ¬(Fo.codes f s).2≠0 from fun hh=>hh hz),i_f];obtain⟨hlen,hbd,hsm⟩:=Fo.codes_zero f s hz;generalize hl:(Fo.codes f s).1=l at hlen hbd hsm hcs;rw[s_len Tryz.underlying9];refine joinF (fun us W=>us=[.int .i64 (l.length:Int)]∧OwnS M.A w W [ftE b1 f wv nv mv,.mem N2]) (fun J hJ=>?_) ?_
 ·rw[fa_f1,ft_wide ho 0 rfl];cases hw:f.wide with
 |true=>
   rw[hw,if_pos rfl] at hlen;simp only[i_t];rw[b_quo (by decide)];refine hJ _ _ ⟨?_,ho⟩;have hr:((s.length:Int).tdiv 2)=(l.length:Int):=by rw[Int.tdiv_eq_ediv_of_nonneg (by omega)];omega
   rw[hr,wrap64_id (by omega) (by omega)]
 |false=>
   rw[hw,if_neg (by decide)] at hlen;simp only[i_f];refine hJ _ _ ⟨?_,ho⟩;rw[hlen]
 clear ho;rintro _ w4 ⟨rfl,ho⟩ _;have hlb:l.length≤1000000:=by
  have:l.length≤s.length:=by
   rw[hlen];split
   ·omega
   ·omega
  omega
 simp only[gd];unfold S_foliantlaw47_FontEach_0;have h2:=hle.trans l2;rw[sl_len Tryz.underlying29 (hcs.now (ho.hasM 1 rfl))]
 try simp only[rs]
 simp only[ne_eq,not_true_eq_false,decide_false,i_f];rw[ft_v ho 0 rfl];refine c_mem ho 1 rfl (fcheck47_ret f wv nv mv N2 w4 (hut.le h2) hok (ho.hasM 1 rfl) (h.le h2)) ?_;rintro _ N3 w5 l3 rfl ho;have ho:OwnS M.A w w5 [ftE b1 f wv nv mv,.mem N3]:=ho;rw[e_int];have h3:=h2.trans l3;refine loop (fun vs W=>∃i:Nat,vs=[.int .i64 (i:Int)]∧i≤l.length∧∃N',N3.le N'∧OwnS M.A w W [ftE b1 f wv nv mv,.mem N']) (fun vs _=>l.length - n0 vs) ⟨0,rfl,by omega,N3,N3.le_refl,ho⟩ ?_;clear ho;rintro _ w6 ⟨i,rfl,hi,ho⟩ _;simp only[gd];have names:∀W,(∃N',N3.le N'∧OwnS M.A w W [ftE b1 f wv nv mv,.mem N'])→CallX prog 19 #[] W (pk K) fun t105 w=>
 LoopX [(.int .i64 0)] w (fun vs5 w N5=>∀_:Sg,S_foliantlaw47_FontEach_2 t105 (vs5.getD 0 undef) w N5 K):=by
  rintro W ⟨N4,l4,ho⟩;have h4:=h3.trans l4;refine c_mem ho 1 rfl (usual47_ret N4 W (hsp.le h4) (ho.hasM 1 rfl)) ?_;intro u1 N5 w7 l5 hu1 ho;have ho:OwnS M.A w w7 [ftE b1 f wv nv mv,.mem N5]:=ho;have h5:=h4.trans l5;have ho:OwnS M.A w w7 [.mem N5,ftE b1 f wv nv mv]:=ho.perm (by exact List.Perm.swap _ _ _);refine loop (fun vs W=>∃i:Nat,vs=[.int .i64 (i:Int)]∧i≤256∧∃N',N5.le N'∧OwnS M.A w W [.mem N',ftE b1 f wv nv mv]) (fun vs _=>256 - n0 vs) ⟨0,rfl,by omega,N5,N5.le_refl,ho⟩ ?_;clear ho;rintro _ w8 ⟨c,rfl,hc,ho⟩ _;simp only[gd];by_cases hlt:c < 256
  ·exact each_name (hsp.le h5) hu1 hlt ho fun W hW=>nextX ⟨c+1,rfl,by omega,hW⟩ (by simp[n0,RowKit.intOf];omega)
  unfold S_foliantlaw47_FontEach_2;obtain⟨N6,l6,ho⟩:=ho;have h6:=h5.trans l6;rw[sl_len Tryz.underlying23 ((hu1.le l6).now (ho.hasM 0 rfl))]
  try simp only[rs]
  simp only[decide_eq_false (show ¬(c:Int) < ((256:Nat):Int) by omega),i_f];rw[sl_len Tryz.underlying23 ((hu1.le l6).now (ho.hasM 0 rfl))]
  try simp only[rs]
  simp only[show decide (((256:Nat):Int)=256)=true from rfl,g_tt];refine lv 0 ho rfl h6 fun W' N' L' j' ho hj hl=>?_
  try simp only[rs]
  exact fin _ _ _ _ ho hj hl
 by_cases hlt:i < l.length
 ·refine each_one hok (h.le h3) (hcs.le l3) hbd hsm (fun hh=>of_decide_eq_true hh) hlt hlb ho (fun W hW=>nextX ⟨i+1,rfl,by omega,hW⟩ (by simp[n0,RowKit.intOf];omega)) names
 unfold S_foliantlaw47_FontEach_1;obtain⟨N4,l4,ho⟩:=ho;rw[sl_len Tryz.underlying29 ((hcs.le (l3.trans l4)).now (ho.hasM 1 rfl))]
 try simp only[rs]
 simp only[decide_eq_false (show ¬(i:Int) < (l.length:Int) by omega),i_f];exact names _ ⟨N4,l4,ho⟩
end
section
open Eng Go.RowKit
def layReps (w:World)(g:Nat):World:=
 { w with heap:=(w.heap.modify g fun
  |.cells _ t frozen=>.cells #[.map (some w.heap.size)] t frozen
  |o=>o).push (.map #[⟨.int .i64 16,.agg #[.int .i64 3,.int .i64 2],0⟩,⟨.int .i64 17,.agg #[.int .i64 3,.int .i64 3],1⟩,⟨.int .i64 18,.agg #[.int .i64 11,.int .i64 7],2⟩] 3) }
end
section
open Eng Go.RowKit Go.ChangeShapes Go.WideShapes Go.ChangeAt
set_option maxRecDepth 100000
theorem list7f {α:Type}:∀{l:List α},l.length=7→∃a b c d e f g,l=[a,b,c,d,e,f,g]
|[a,b,c,d,e,f,g],_=>⟨a,b,c,d,e,f,g,rfl⟩
theorem list2o {α:Type}:∀{l:List α},l.length=2→∃a b,l=[a,b]
|[a,b],_=>⟨a,b,rfl⟩
theorem sum_w47 {α:Type}{wt:α→Nat}:∀{l:List α} {s:α},s∈l→wt s≤(l.map wt).sum
|a::l,s,h=>by
  rw[List.map_cons,List.sum_cons];rcases List.mem_cons.1 h with rfl|h
  ·omega
  ·have:=sum_w47 (wt:=wt) h;omega
theorem len_w47 {α:Type}{wt:α→Nat}(hp:∀x,1≤wt x):∀l:List α,l.length≤(l.map wt).sum
|[]=>by simp
|a::l=>by
  have:=len_w47 hp l;have:=hp a;rw[List.map_cons,List.sum_cons,List.length_cons];omega
section
variable {H:Type}{enc:TypeId×Value→H}{W:World}{sp:Nat→Bool}{held:Bool}
theorem open_str47 (fuel:Nat)(cs:List Value)(x:DataW H×List MemPlace)(h:DataW.trod enc prog W 0 sp held fuel 9 cs=some x):∃s:List UInt8,cs=strsV [s]∧cs.length=1∧s.length+1≤Rows.uptoBulk x.1:=by
 obtain⟨s,rfl,rfl,_⟩:=DataW.trod_string Tryz.underlying9 h;refine⟨s.data.toList,rfl,rfl,?_⟩;simp only[Rows.uptoBulk];omega
theorem open_i6447 (fuel:Nat)(cs:List Value)(x:DataW H×List MemPlace)(h:DataW.trod enc prog W 0 sp held fuel 2 cs=some x):∃n:Int,cs=intsW [n]∧cs.length=1∧1≤Rows.uptoBulk x.1:=by
 obtain⟨n,rfl,rfl,_⟩:=DataW.trod_int Tryz.underlying2 h;exact⟨n,rfl,rfl,by simp[Rows.uptoBulk]⟩
theorem open_mp47 (fuel:Nat)(cs:List Value)(x:DataW H×List MemPlace)(h:DataW.trod enc prog W 0 sp held fuel 44 cs=some x):∃m:Cm.Mp,cs=mpC m∧cs.length=2∧m.2.length+1≤Rows.uptoBulk x.1:=by
 obtain⟨xs,n,rfl,rfl,hl,hxl,hf⟩:=DataW.trod_struct Tryz.underlying44 h;have c2:Tryz.prog.cellsOf 44=2:=by kernel_rfl
 rw[c2] at hl;have hxl:xs.length=2:=hxl;obtain⟨x0,x1,rfl⟩:=list2o hxl;obtain⟨v0,v1,rfl⟩:=list2o hl;have e0:=hf 0 _ rfl;have e1:=hf 1 _ rfl;have k0:Tryz.prog.cellsOf 3=1:=by kernel_rfl
 have k1:Tryz.prog.cellsOf 9=1:=by kernel_rfl
 simp only[k0,k1,List.drop_zero,List.drop_succ_cons,List.take_succ_cons,List.take_zero,List.getElem?_cons_zero,List.getElem?_cons_succ] at e0 e1;obtain⟨a,ha,rfl,_⟩:=DataW.trod_int Tryz.underlying3 e0;obtain⟨s,hs,rfl,_⟩:=DataW.trod_string Tryz.underlying9 e1
 injection ha with ha _
 injection hs with hs _
 subst ha;subst hs;refine⟨(a,s.data.toList),rfl,rfl,?_⟩;simp only[Rows.uptoBulk,List.map_cons,List.map_nil,Rows.uptoBulkAll];omega
theorem strs_fm:∀l:List (List UInt8),(l.flatMap fun s=>strsV [s])=strsV l
|[]=>rfl
|s::l=>by rw[List.flatMap_cons,strs_fm l];rfl
theorem ints_fm:∀l:List Int,(l.flatMap fun s=>intsW [s])=intsW l
|[]=>rfl
|s::l=>by rw[List.flatMap_cons,ints_fm l];rfl
theorem row_font {b0:Nat}{v:Value}{d:DataW H}{ps:List MemPlace}(hval:Value.okWide prog W .any b0 26 v)(hd:DataW.Trod enc prog W 0 sp held 26 v d ps) :
  ∃(f:Ft) (wv nv mv:Value),v=ftV f wv nv mv∧FtAt (Mem.all W) f wv nv mv∧(Rows.uptoBulk d≤1048576→FtOk f):=by
 obtain⟨cs,rfl,_⟩:=okWide_struct Tryz.underlying26 hval;obtain⟨fuel,h⟩:=hd;have h:DataW.trod enc prog W 0 sp held fuel 26 cs.toList=some (d,ps):=h;obtain⟨xs,n,rfl,hdd,hl,hxl,hf⟩:=DataW.trod_struct Tryz.underlying26 h;have c7:Tryz.prog.cellsOf 26=7:=by kernel_rfl
 rw[c7] at hl;have hxl:xs.length=7:=hxl;obtain⟨x0,x1,x2,x3,x4,x5,x6,rfl⟩:=list7f hxl;obtain⟨v0,v1,v2,v3,v4,v5,v6,hcs⟩:=list7f hl;rw[hcs] at hf;have e0:=hf 0 _ rfl;have e1:=hf 1 _ rfl;have e2:=hf 2 _ rfl;have e3:=hf 3 _ rfl;have e4:=hf 4 _ rfl;have e5:=hf 5 _ rfl;have e6:=hf 6 _ rfl;have k0:Tryz.prog.cellsOf 9=1:=by kernel_rfl
 have k1:Tryz.prog.cellsOf 4=1:=by kernel_rfl
 have k2:Tryz.prog.cellsOf 3=1:=by kernel_rfl
 have k3:Tryz.prog.cellsOf 22=1:=by kernel_rfl
 have k4:Tryz.prog.cellsOf 2=1:=by kernel_rfl
 have k5:Tryz.prog.cellsOf 23=1:=by kernel_rfl
 have k6:Tryz.prog.cellsOf 24=1:=by kernel_rfl
 simp only[k0,k1,k2,k3,k4,k5,k6,List.drop_zero,List.drop_succ_cons,List.take_succ_cons,List.take_zero,List.getElem?_cons_zero,List.getElem?_cons_succ] at e0 e1 e2 e3 e4 e5 e6;obtain⟨s,hs,hs1,_⟩:=DataW.trod_string Tryz.underlying9 e0;obtain⟨b,hb,_⟩:=DataW.trod_bool Tryz.underlying4 e1;obtain⟨p,hp,_,hpw⟩:=DataW.trod_int Tryz.underlying3 e2;obtain⟨wv,ds3,ws,g3,q3,r3,_,z3⟩:=open_slice_of (R:=fun cs (n:Int)=>cs=intsW [n]) (wt:=fun _:Int=>1) (n:=1) Tryz.underlying22 (by kernel_rfl) (by decide) open_i6447 e3;obtain⟨m,hm,_,_⟩:=DataW.trod_int Tryz.underlying2 e4;obtain⟨nv,ds5,ns,g5,q5,r5,_,z5⟩:=open_slice_of (R:=fun cs (s:List UInt8)=>cs=strsV [s]) (wt:=fun s:List UInt8=>s.length+1) (n:=1) Tryz.underlying23 (by kernel_rfl) (by decide) open_str47 e5;obtain⟨mv,ds6,ms,g6,q6,r6,_,z6⟩:=open_slice_of (R:=fun cs (x:Cm.Mp)=>cs=mpC x) (wt:=fun x:Cm.Mp=>x.2.length+1) (n:=2) Tryz.underlying24 (by kernel_rfl) (by decide) open_mp47 e6
 injection hs with hs _
 injection hb with hb _
 injection hp with hp _
 injection g3 with g3 _
 injection hm with hm _
 injection g5 with g5 _
 injection g6 with g6 _
 subst hs;subst hb;subst hp;subst g3;subst hm;subst g5;subst g6;have hbk:s.data.toList.length+1+Rows.uptoBulk x3.1+Rows.uptoBulk x5.1+Rows.uptoBulk x6.1≤Rows.uptoBulk d:=by
  have hdd:d=_:=congrArg Prod.fst hdd;rw[hdd,hs1];simp only[Rows.uptoBulk,List.map_cons,List.map_nil,Rows.uptoBulkAll];omega
 have t3:ds3=intsW ws:=(Rws.flat r3).trans (ints_fm ws);have t5:ds5=strsV ns:=(Rws.flat r5).trans (strs_fm ns);have t6:ds6=mpsC ms:=Rws.flat r6;subst t3;subst t5;subst t6;refine⟨⟨s.data.toList,b,p,ws,m,ns,ms⟩,v3,v5,v6,?_,⟨q3,q5,q6⟩,fun hd=>⟨?_,?_,?_,fun s' hs'=>?_,?_,fun x hx=>?_,int_bounds_i64 hpw⟩⟩
 ·rw[ftV,ftC];have:cs=cs.toList.toArray:=by simp
  rw[this,hcs]
 ·show s.data.toList.length≤_;omega
 ·have:=len_w47 (wt:=fun _:Int=>1) (fun _=>by omega) ws;show ws.length≤_;omega
 ·have:=len_w47 (wt:=fun s:List UInt8=>s.length+1) (fun _=>by omega) ns;show ns.length≤_;omega
 ·have:=sum_w47 (wt:=fun s:List UInt8=>s.length+1) (l:=ns) hs'
  try dsimp only at this
  omega
 ·have:=len_w47 (wt:=fun x:Cm.Mp=>x.2.length+1) (fun _=>by omega) ms;show ms.length≤_;omega
 ·have:=sum_w47 (wt:=fun x:Cm.Mp=>x.2.length+1) (l:=ms) hx
  try dsimp only at this
  omega
end
theorem cell_lt47 {W:World}{g i:Nat}{v:Value}(h:W.cell? ⟨g,i,none⟩=some v):g < W.heap.size:=by
 unfold World.cell? at h;cases hh:W.heap[g]? with
|none=>simp[hh] at h
|some o=>exact lt_of_get hh
theorem cell_all47 {W w:World}(h:(Mem.all W).has w){g i:Nat}(hl:g < W.heap.size):w.cell? ⟨g,i,none⟩=W.cell? ⟨g,i,none⟩:=by
 unfold World.cell?;rw[show w.heap[g]?=W.heap[g]? from h g hl]
def u8extra:U8Extra prog u8ren:=⟨by kernel_rfl,by kernel_rfl,by kernel_rfl,by kernel_rfl,by kernel_rfl,by kernel_rfl,by kernel_rfl⟩
theorem utM_laid {W:World}{l:List (String×DataW Unit)}(h:laidMet prog l W)(h1:("unicode/utf8.first",Lib.firstData)∈l)(h2:("unicode/utf8.acceptRanges",Lib.acceptData)∈l):UtM (Mem.all W):=by
 have hu:Lib.Utf8Tabs 1 2 W:=utf8Tabs_of_readsT (U8Types.of196 u8lays) u8extra (Lib.laidMet.reads h h1) (Lib.laidMet.reads h h2);have l3:=cell_lt47 (hu.1 0 (by omega));have l4:=cell_lt47 (hu.2 0 (by omega)).1;intro w hw;refine⟨fun c hc=>?_,fun i hi=>⟨?_,?_⟩⟩
 ·rw[cell_all47 hw l3];exact hu.1 c hc
 ·rw[cell_all47 hw l4];exact (hu.2 i hi).1
 ·rw[cell_all47 hw l4];exact (hu.2 i hi).2
theorem spM_laid {W:World}(h:SpF W):SpM (Mem.all W):=by
 intro w hw;have hg:Tryz.prog.globalNamed "strings.asciiSpace"=some 0:=by kernel_rfl
 unfold SpF Lib.TabIs World.var? at h ⊢;rw[hg] at h ⊢;simp only[Option.bind_some] at h ⊢;have hlt:0 < W.heap.size:=by
  rcases Nat.lt_or_ge 0 W.heap.size with h'|h'
  ·exact h'
  ·rw[Array.getElem?_eq_none h'] at h;cases h
 rw[show w.heap[0]?=W.heap[0]? from hw _ hlt];exact h
end
section
open Eng Go.RowKit
theorem fontEach_row (f:Ft)(s:List UInt8)(wv nv mv:Value)(w:World)(hut:UtM (Mem.all w))(hsp:SpM (Mem.all w))(hok:FtOk f)(h:FtAt (Mem.all w) f wv nv mv) :
  Ret prog 4 #[ftV f wv nv mv,.string ⟨s.toArray⟩] w (fun v w'=>v=.bool true∧Below w.heap.size w w'):=
 RetM.told (fontEach_ret f s wv nv mv (Mem.all w) w hut hsp hok (Mem.all_has w) h)
end
section
open Go
theorem goes_none {P:Program}(h:P.funcs.any Func.goes=false)(f:FuncId):P.goes f=false:=by
 have hf:∀g:FuncId,((P.funcs[g]?).any Func.goes)=false:=by
  intro g;cases hg:P.funcs[g]? with
 |none=>rfl
 |some fn=>
   have:=Array.any_eq_false.1 h;obtain⟨hi,e⟩:=Array.getElem?_eq_some_iff.1 hg;have:=this g hi;rw[e] at this;simpa using this
 unfold Program.goes;rw[h,Bool.and_false,Bool.or_false];simp[hf]
theorem goesBy_none {P:Program}(h:P.funcs.any Func.goes=false)(c:OpenClaim):false=c.goesBy P:=by
 unfold OpenClaim.goesBy Program.goesAt Program.goesFrom;have h1:∀o:Option FuncId,o.any P.goes=false:=by
  intro o;cases o with
 |none=>rfl
 |some f=>exact goes_none h f
 rw[h1,Bool.false_or];cases c.start<;>simp[goes_none h]
end
end Go.Proofs.YtmkodaephgnehaaGreatDoor
