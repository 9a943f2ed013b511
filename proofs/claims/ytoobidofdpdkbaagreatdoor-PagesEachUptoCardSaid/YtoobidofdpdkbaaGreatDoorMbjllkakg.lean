/- Texts that go together: PgS PgT SDrop5 SRef19B PgU PgV LbG LbH LbI LbJ LbK EngV SLaw38 LbL LbM LbN LbO PgX. -/
import Derived.Test.YtoobidofdpdkbaaGreatDoorRows
import Derived.Test.YtoobidofdpdkbaaGreatDoorMhlapigmo
import Derived.Test.YtoobidofdpdkbaaGreatDoorMjpegbfdg
import Derived.Test.YtoobidofdpdkbaaGreatDoorMokimabbj
import Derived.Test.YtoobidofdpdkbaaGreatDoorMcijedbab
set_option linter.defProp false
set_option linter.unusedSimpArgs false
set_option linter.unusedVariables false
set_option maxRecDepth 20000
open Go.Proofs.Tryz (prog)
namespace Go.Proofs.YtoobidofdpdkbaaGreatDoor
section
open Eng Go.RowKit
theorem run_notP {P:Program}{W:World}{b:Bool}:(mUn .not (.bool b)).run P W=.ok (.value (.bool (!b))) W:=mv_run (by simp[Op.unary])
theorem page_at {M:Mem}{vi:Value}{l:List Pge}{cs:List Value}(hs:SlA M.A M.w vi 16 l.length cs)(hall:PgVs M.A M.w cs l){i:Nat}(hi:i < l.length) :
  ∃(vk vc:Value) (b off:Nat),OV M.A M.w (obV l[i].res vk vc) l[i].res∧(∀W,(mIA 31 vi (.int .i64 (i:Int))).run prog W=.ok (.value (.pointer (some ⟨b,off,none⟩))) W) ∧
   (∀W,M.has W→(mLoad 48 (.pointer (some ⟨b,off,none⟩))).run prog W=.ok (.value (pgV l[i] vk vc)) W)∧∀W,M.has W→(mLoad 3 (.pointer (some ⟨b,off,none⟩))).run prog W=.ok (.value (.int .i64 l[i].num)) W:=by
 obtain⟨b,off,cap,rfl,_⟩:=sl_open hs.1 (by omega);obtain⟨a,⟨vk,vc,rfl,hc⟩,hget⟩:=Rws.get pgR_len i hi hall;have cell:∀W,M.has W→∀j v,(pgC l[i] vk vc)[j]?=some v→W.cell? ⟨b,off+i*16+j,none⟩=some v:=fun W hW j v hj=>by
  obtain⟨b',off',cap',he,hcell⟩:=sl_open (hs.now hW) (by omega);cases he;rw[Nat.add_assoc];exact hcell _ _ (hget j v hj)
 refine⟨vk,vc,b,off+i*16,hc,fun W=>?_,fun W hW=>?_,fun W hW=>?_⟩
 ·refine (run_ia Tryz.underlying31 szPg (by omega) (by omega)).trans ?_;rw[Int.toNat_natCast]
 ·exact run_load_at (AtV.agg aggPg (cs:=pgC l[i] vk vc) rfl (cell W hW))
 ·exact run_load_cell nInt5 (by have:=cell W hW 0 _ rfl;rwa [Nat.add_zero] at this)
section
variable {w:World}{PK:PKT}{K:VWP}{S:Nat→Prop}{w0:World}{L:List Ent}
theorem pg_m0 (ho:OwnS S w0 w L)(j:Nat){b:Nat}{p:Pge}{vk vc:Value}(hi:L[j]?=some (pgE b p vk vc)):DoX prog (mLoad 2 (.pointer (some ⟨b,0+1,none⟩))) w PK K=K (.int .i64 p.media.x0) w:=l_cell nI64p (ho.cell j hi 1 rfl)
theorem pg_m1 (ho:OwnS S w0 w L)(j:Nat){b:Nat}{p:Pge}{vk vc:Value}(hi:L[j]?=some (pgE b p vk vc)):DoX prog (mLoad 2 (.pointer (some ⟨b,0+1+1,none⟩))) w PK K=K (.int .i64 p.media.y0) w:=l_cell nI64p (ho.cell j hi 2 rfl)
theorem pg_m2 (ho:OwnS S w0 w L)(j:Nat){b:Nat}{p:Pge}{vk vc:Value}(hi:L[j]?=some (pgE b p vk vc)):DoX prog (mLoad 2 (.pointer (some ⟨b,0+1+2,none⟩))) w PK K=K (.int .i64 p.media.x1) w:=l_cell nI64p (ho.cell j hi 3 rfl)
theorem pg_m3 (ho:OwnS S w0 w L)(j:Nat){b:Nat}{p:Pge}{vk vc:Value}(hi:L[j]?=some (pgE b p vk vc)):DoX prog (mLoad 2 (.pointer (some ⟨b,0+1+3,none⟩))) w PK K=K (.int .i64 p.media.y1) w:=l_cell nI64p (ho.cell j hi 4 rfl)
theorem pg_c0 (ho:OwnS S w0 w L)(j:Nat){b:Nat}{p:Pge}{vk vc:Value}(hi:L[j]?=some (pgE b p vk vc)):DoX prog (mLoad 2 (.pointer (some ⟨b,0+5,none⟩))) w PK K=K (.int .i64 p.crop.x0) w:=l_cell nI64p (ho.cell j hi 5 rfl)
theorem pg_c1 (ho:OwnS S w0 w L)(j:Nat){b:Nat}{p:Pge}{vk vc:Value}(hi:L[j]?=some (pgE b p vk vc)):DoX prog (mLoad 2 (.pointer (some ⟨b,0+5+1,none⟩))) w PK K=K (.int .i64 p.crop.y0) w:=l_cell nI64p (ho.cell j hi 6 rfl)
theorem pg_c2 (ho:OwnS S w0 w L)(j:Nat){b:Nat}{p:Pge}{vk vc:Value}(hi:L[j]?=some (pgE b p vk vc)):DoX prog (mLoad 2 (.pointer (some ⟨b,0+5+2,none⟩))) w PK K=K (.int .i64 p.crop.x1) w:=l_cell nI64p (ho.cell j hi 7 rfl)
theorem pg_c3 (ho:OwnS S w0 w L)(j:Nat){b:Nat}{p:Pge}{vk vc:Value}(hi:L[j]?=some (pgE b p vk vc)):DoX prog (mLoad 2 (.pointer (some ⟨b,0+5+3,none⟩))) w PK K=K (.int .i64 p.crop.y1) w:=l_cell nI64p (ho.cell j hi 8 rfl)
theorem pg_rk (ho:OwnS S w0 w L)(j:Nat){b:Nat}{p:Pge}{vk vc:Value}(hi:L[j]?=some (pgE b p vk vc)):DoX prog (mLoad 3 (.pointer (some ⟨b,0+10,none⟩))) w PK K=K (.int .i64 p.res.k) w:=l_cell nInt5 (ho.cell j hi 10 rfl)
end
theorem Pg.page_wt {d:Dc}(hd:Dk.Ok d){x:Lf}(hx:ChOk x.chain)(h:(Pg.page d x).2=0):(Pg.page d x).1.res.wt≤1000000000∧Pg.PgOk (Pg.page d x).1:=by
 obtain⟨hok,-,-,hp⟩:=Pg.page_ok h;refine⟨?_,hok⟩;rw[hp];show (if _ then _ else _:Ob).wt≤_;split
 ·exact Pg.inh_wt hd hx.wt _
 ·decide
theorem Pg.list_wt {d:Dc}(hd:Dk.Ok d)(h:(Pg.list d).2=0){i:Nat}(hi:i < (Pg.list d).1.length):(Pg.list d).1[i].res.wt≤1000000000∧Pg.PgOk (Pg.list d).1[i]:=by
 obtain⟨hl0,hlm,hall⟩:=Pg.list_ok h;have hi':i < (Pg.leaves d).1.length:=by rw[hlm,List.length_map] at hi;exact hi
 have e:(Pg.list d).1[i]=(Pg.page d (Pg.leaves d).1[i]).1:=by
  have h2:(Pg.list d).1[i]?=((Pg.leaves d).1.map (fun x=>(Pg.page d x).1))[i]?:=by rw[hlm]
  rw[List.getElem?_eq_getElem hi,List.getElem?_map,List.getElem?_eq_getElem hi'] at h2;simpa using h2
 have hx:=Pg.leaf_ok hd hi';exact e▸Pg.page_wt hd hx (hall _ (List.getElem_mem hi'))
theorem pagesEach_ret (d:Dc)(dv:Value)(M:Mem)(w:World)(hd:Dk.Ok d)(hsz:Dk.size d≤1000000000000)(hM:M.has w)(hdv:DV M.A M.w dv d) :
  RetM prog 5 #[dv] M w (fun r _=>r=.bool true):=by
 obtain⟨vi,tk,tc,dcs,rfl,hda⟩:=hdv;refine retM_of hM fun K hK=>S_foliantlaw35_PagesEach_ok ?_;unfold S_foliantlaw35_PagesEach;refine o_dcb d hda.items.one hda.trailer.oneK hda.trailer.oneC (OwnS.memS hM) fun b1 w1 ho=>?_;rw[dc_v ho 0 rfl];refine c_mem ho 1 rfl (lsmall_ret d _ M w1 hd hsz (ho.hasM 1 rfl) hda.dv) ?_;rintro _ N w3 hle rfl ho;have hda:=hda.le hle;have live:∀{W:World} {N:Mem} {L:List Ent} (i:Nat),OwnS M.A w W L→L[i]?=some (.mem N)→M.le N →
   CallX prog 9 #[] W (Eng.pk K) fun t W=>K (.returned t) W:=by
  intro W N L i ho hi hle;refine c_mem ho i hi (lives35_ret N W (ho.hasM i hi)) ?_;rintro _ N' W' hle' rfl ho;have hil:=(List.getElem?_eq_some_iff.1 hi).1;exact hK _ _ N' _ i ho (by rw[List.getElem?_set_self hil]) (hle.trans hle') rfl
 cases hs:smallD d with
|false=>
  simp only[rs,Bool.not_false];exact live 1 ho rfl hle
|true=>
  simp only[rs,Bool.not_true];rw[dc_v ho 0 rfl];refine c_mem ho 1 rfl (plist_ret d _ N w3 hd (ho.hasM 1 rfl) hda.dv) ?_;rintro _ N2 w4 g2 ⟨lv,cs,rfl,hsl,hps⟩ ho;simp only[errV,ex];rw[dc_v ho 0 rfl];refine c_mem ho 1 rfl (pcount_ret d _ N2 w4 hd (ho.hasM 1 rfl) (hda.le g2).dv) ?_;rintro _ N3 w5 g3 rfl ho;simp only[ex,n_err];have h3:=hle.trans (g2.trans g3);by_cases he:(Pg.list d).2=0
  case neg=>
   simp only[he,ne_eq,not_false_eq_true,decide_true,i_t];rw[sl_len Tryz.underlying31 ((hsl.le g3).now (ho.hasM 1 rfl)),Pg.list_err he];simp only[List.length_nil,Int.ofNat_zero,Int.natCast_zero,rs,decide_true];refine c_mem ho 1 rfl (lives35_ret N3 w5 (ho.hasM 1 rfl)) ?_;rintro _ N4 w11 g4 rfl ho
   try simp only[rs]
   exact hK _ _ N4 _ 1 ho rfl (h3.trans g4) rfl
  obtain⟨hl0,hlm,-⟩:=Pg.list_ok he;have hlen:(Pg.leaves d).1.length=(Pg.list d).1.length:=by rw[hlm,List.length_map]
  have hll:=(Pg.leaves_ch hd).2;simp only[he,hl0,ne_eq,not_true,decide_false,rs];rw[sl_len Tryz.underlying31 ((hsl.le g3).now (ho.hasM 1 rfl)),hlen];simp only[rs,not_true,ne_eq,decide_false];have hw:=fun (i:Nat) hi=>Pg.list_wt hd he (i:=i) hi;have each:=fun (i:Nat) hi=>Pg.each_page he (i:=i) hi;have ho:OwnS M.A w w5 [dcE b1 d vi tk tc,.mem N3]:=ho;have hda:=hda.le (g2.trans g3);have hsl:=hsl.le g3;have hps:=hps.le g3;generalize hL:(Pg.list d).1=l at *;refine loop (fun vs W=>∃(i:Nat) (N':Mem),vs=[.int .i64 i]∧i≤l.length∧N3.le N'∧OwnS M.A w W [dcE b1 d vi tk tc,.mem N']) (fun vs _=>l.length - n0 vs) ⟨0,N3,rfl,by omega,N3.le_refl,ho⟩ ?_;clear ho;rintro vs w6 ⟨i,N',rfl,hi,g4,ho⟩ _;simp only[S_foliantlaw35_PagesEach_0,gd,rs];rw[sl_len Tryz.underlying31 ((hsl.le g4).now (ho.hasM 1 rfl))];simp only[rs];by_cases hlt:(i:Int) < (l.length:Int)
  ·have hi':i < l.length:=by omega
   obtain⟨hg,hp⟩:=each i hi';obtain⟨hw,hok⟩:=hw i hi';simp only[hlt,decide_true,i_t];rw[dc_v ho 0 rfl];refine c_mem ho 1 rfl (pget_ret d i _ N' w6 hd (ho.hasM 1 rfl) (hda.le g4).dv) ?_;rintro _ N5 w7 g5 ⟨_,rfl,pk,pc,rfl,hpg⟩ ho;rw[hg] at hpg ⊢;simp only[errV,ex];refine o_pga ho fun b8 w8 ho=>?_;refine pg_put 0 hpg.oneK hpg.oneC ho rfl fun w9 ho=>?_;have g45:=g4.trans g5;have ho:OwnS M.A w w9 [pgE b8 l[i] pk pc,dcE b1 d vi tk tc,.mem N5]:=ho;obtain⟨qk,qc,qb,qo,hq,r1,r2,r3⟩:=page_at (hsl.le g45) (hps.le g45) hi';refine quietC (fun W=>OwnS M.A w W [pgE b8 l[i] pk pc,dcE b1 d vi tk tc,.mem N5]) ho.drew ?_;refine q_at _ (fun W h=>run_dcv (h.at_ 1 rfl)) (q_do _ r1 (q_do _ (fun _=>run_fa fo_pg0) (q_at _ (fun W h=>r3 W (h.hasM 2 rfl)) ?_)));refine q_call (.tuple #[.int .i64 (Pg.place d l[i].num).1,.bool (Pg.place d l[i].num).2]) (fun W h=>(RetM.told (pplace_ret d _ _ N5 W hd (h.hasM 2 rfl) (hda.le g45).dv)).mono fun v w' r=>⟨r.1,h.grow r.2⟩) ?_;rw[hp];refine q_ext (q_ext1 ?_);intro w10 ho;refine quietC (fun W=>OwnS M.A w W [pgE b8 l[i] pk pc,dcE b1 d vi tk tc,.mem N5]) ho.drew ?_;refine q_ne ?_;simp only[ne_eq,not_true_eq_false,decide_false,gq];refine q_at _ (fun W h=>run_load_at (h.agg 0 rfl aggPg)) (q_do _ r1 (q_at _ (fun W h=>r2 W (h.hasM 2 rfl)) ?_));refine q_call (.bool true) (fun W h=>(rsamepage_ret l[i] _ _ N5 W hw (h.hasM 2 rfl) ⟨pk,pc,rfl,hpg⟩ ⟨qk,qc,rfl,hq⟩).mono fun v w' r=>⟨r.1,h.grow r.2⟩) ?_;refine q_do _ (fun _=>run_notP) (q_pf ?_);simp only[gq,Bool.not_true];refine q_do _ (fun _=>run_notP) (q_pf ?_);simp only[gq,Bool.not_true];refine q_ne ?_;simp only[ne_eq,not_true_eq_false,decide_false];refine q_pf ?_;intro w11 ho;have c1:=hok.c1;have c2:=hok.c2;have c3:=hok.c3;have c4:=hok.c4;simp only[rs];rw[fa_pg2,fa_rc0,pg_c0 ho 0 rfl,fa_pg1,fa_rc0,pg_m0 ho 0 rfl];simp only[rs,show ¬l[i].crop.x0 < l[i].media.x0 by omega,decide_false];rw[fa_pg2,fa_rc1,pg_c1 ho 0 rfl,fa_pg1,fa_rc1,pg_m1 ho 0 rfl];simp only[rs,show ¬l[i].crop.y0 < l[i].media.y0 by omega,decide_false];rw[fa_pg2,fa_rc2,pg_c2 ho 0 rfl,fa_pg1,fa_rc2,pg_m2 ho 0 rfl];simp only[rs,show ¬l[i].media.x1 < l[i].crop.x1 by omega,decide_false];rw[fa_pg2,fa_rc3,pg_c3 ho 0 rfl,fa_pg1,fa_rc3,pg_m3 ho 0 rfl];simp only[rs,show ¬l[i].media.y1 < l[i].crop.y1 by omega,decide_false];rw[fa_pg3,pg_rot ho 0 rfl,b_rem (by decide),hok.r1];simp only[rs,ne_eq,not_true,decide_false];rw[fa_pg3,pg_rot ho 0 rfl];simp only[rs,show ¬l[i].rotate < 0 from by have:=hok.r2;omega,decide_false];rw[fa_pg3,pg_rot ho 0 rfl];simp only[rs,show ¬270 < l[i].rotate from by have:=hok.r3;omega,decide_false];rw[fa_pg4,fa_o0,pg_rk ho 0 rfl,hok.res];simp only[rs,ne_eq,not_true,decide_false];rw[wrap64_id (by omega) (by omega)];exact nextX ⟨i+1,N5,rfl,by omega,g45,ho.tail⟩ (by simp[n0,RowKit.intOf];omega)
  ·simp only[hlt,decide_false,i_f];exact live 1 ho rfl (h3.trans g4)
end
end Go.Proofs.YtoobidofdpdkbaaGreatDoor















namespace Go.Proofs.YtoobidofdpdkbaaGreatDoor
section
open Eng Go.RowKit Go.ChangeShapes Go.WideShapes Go.ChangeAt
set_option maxRecDepth 100000
theorem list3d {α:Type}:∀{l:List α},l.length=3→∃a b c,l=[a,b,c]
|[a,b,c],_=>⟨a,b,c,rfl⟩
theorem list2d {α:Type}:∀{l:List α},l.length=2→∃a b,l=[a,b]
|[a,b],_=>⟨a,b,rfl⟩
theorem list8d {α:Type}:∀{l:List α},l.length=8→∃a b c d e f g h,l=[a,b,c,d,e,f,g,h]
|[a,b,c,d,e,f,g,h],_=>⟨a,b,c,d,e,f,g,h,rfl⟩
theorem list7d {α:Type}:∀{l:List α},l.length=7→∃a b c d e f g,l=[a,b,c,d,e,f,g]
|[a,b,c,d,e,f,g],_=>⟨a,b,c,d,e,f,g,rfl⟩
section
variable {H:Type}{enc:TypeId×Value→H}{W:World}{sp:Nat→Bool}{held:Bool}
theorem open_item (fuel:Nat)(cs:List Value)(x:DataW H×List MemPlace)(h:DataW.trod enc prog W 0 sp held fuel 53 cs=some x):∃i:It,itR (InW W) W cs i∧cs.length=8∧i.obj.wt≤Rows.uptoBulk x.1:=by
 obtain⟨xs,n,rfl,rfl,hl,hxl,hf⟩:=DataW.trod_struct Tryz.underlying53 h;have c8:Tryz.prog.cellsOf 53=8:=by kernel_rfl
 rw[c8] at hl;have hxl:xs.length=3:=hxl;obtain⟨x0,x1,x2,rfl⟩:=list3d hxl;obtain⟨v0,v1,v2,v3,v4,v5,v6,v7,rfl⟩:=list8d hl;have e0:=hf 0 _ rfl;have e1:=hf 1 _ rfl;have e2:=hf 2 _ rfl;have k0:Tryz.prog.cellsOf 3=1:=by kernel_rfl
 have k6:Tryz.prog.cellsOf 26=6:=by kernel_rfl
 simp only[k0,k6,List.drop_zero,List.drop_succ_cons,List.take_succ_cons,List.take_zero,List.getElem?_cons_zero,List.getElem?_cons_succ] at e0 e1 e2;obtain⟨m,hm,rfl,_⟩:=DataW.trod_int Tryz.underlying3 e0;obtain⟨g,hg,rfl,_⟩:=DataW.trod_int Tryz.underlying3 e1;obtain⟨o,h1,h2,h3⟩:=open_obj _ _ _ e2
 injection hm with hm _
 injection hg with hg _
 subst hm;subst hg;obtain⟨vk,vc,ocs,he,ha⟩:=h1.open;have he:[v2,v3,v4,v5,v6,v7]=obC o vk vc:=by
  have:[v2,v3,v4,v5,v6,v7].toArray=(obC o vk vc).toArray:=by injection he
  simpa using congrArg Array.toList this
 refine⟨⟨m,g,o⟩,⟨vk,vc,?_,ha.ov⟩,rfl,?_⟩
 ·show _=.int .i64 m::.int .i64 g::obC o vk vc;rw[←he]
 ·show o.wt≤_;simp only[Rows.uptoBulk,List.map_cons,List.map_nil,Rows.uptoBulkAll];omega
theorem wti_le:∀{l:List It} {i:It},i∈l→i.obj.wt≤(l.map fun i=>i.obj.wt).sum
|a::l,i,h=>by
  rw[List.map_cons,List.sum_cons];rcases List.mem_cons.1 h with rfl|h
  ·omega
  ·have:=wti_le h;omega
theorem len_wti:∀l:List It,l.length≤(l.map fun i=>i.obj.wt).sum
|[]=>by simp
|a::l=>by
  have:=len_wti l;have:=a.obj.wt_pos;rw[List.map_cons,List.sum_cons,List.length_cons];omega
theorem size_wti:∀l:List It,(l.map fun i=>Vl.size i.obj).sum≤(l.map fun i=>i.obj.wt).sum
|[]=>by simp
|a::l=>by
  have:=size_wti l;have:=Vl.size_wt a.obj;rw[List.map_cons,List.sum_cons,List.map_cons,List.sum_cons];omega
theorem row_doc {b0:Nat}{v:Value}{d:DataW H}{ps:List MemPlace}(hval:Value.okWide prog W .any b0 28 v)(hd:DataW.Trod enc prog W 0 sp held 28 v d ps) :
  ∃x:Dc,DV (InW W) W v x∧Lb.Sm (Rows.uptoBulk d) x∧Dk.size x≤Rows.uptoBulk d:=by
 obtain⟨cs,rfl,_⟩:=okWide_struct Tryz.underlying28 hval;obtain⟨fuel,h⟩:=hd;have h:DataW.trod enc prog W 0 sp held fuel 28 cs.toList=some (d,ps):=h;obtain⟨xs,n,rfl,hdd,hl,hxl,hf⟩:=DataW.trod_struct Tryz.underlying28 h;have c7:Tryz.prog.cellsOf 28=7:=by kernel_rfl
 rw[c7] at hl;have hxl:xs.length=2:=hxl;obtain⟨x0,x1,rfl⟩:=list2d hxl;obtain⟨v0,v1,v2,v3,v4,v5,v6,hcs⟩:=list7d hl;rw[hcs] at hf;have e0:=hf 0 _ rfl;have e1:=hf 1 _ rfl;have k0:Tryz.prog.cellsOf 22=1:=by kernel_rfl
 have k6:Tryz.prog.cellsOf 26=6:=by kernel_rfl
 simp only[k0,k6,List.drop_zero,List.drop_succ_cons,List.take_succ_cons,List.take_zero,List.getElem?_cons_zero,List.getElem?_cons_succ] at e0 e1;obtain⟨v',ds,is,h1,h2,h3,h4,h5⟩:=open_slice_of (R:=itR (InW W) W) (wt:=fun i=>i.obj.wt) (n:=8) Tryz.underlying22 (by kernel_rfl) (by decide) open_item e0
 injection h1 with h1 _
 subst h1;obtain⟨o,g1,g2,g3⟩:=open_obj _ _ _ e1;obtain⟨vk,vc,ocs,he,ha⟩:=g1.open;have he:[v1,v2,v3,v4,v5,v6]=obC o vk vc:=by
  have:[v1,v2,v3,v4,v5,v6].toArray=(obC o vk vc).toArray:=by injection he
  simpa using congrArg Array.toList this
 have hb:Rows.uptoBulk x0.1+Rows.uptoBulk x1.1≤Rows.uptoBulk d:=by
  have hdd:d=_:=congrArg Prod.fst hdd;rw[hdd];simp only[Rows.uptoBulk,List.map_cons,List.map_nil,Rows.uptoBulkAll];omega
 have hw:∀i∈is,i.obj.wt≤(is.map fun i=>i.obj.wt).sum:=fun i hi=>wti_le hi;have hl:=len_wti is;have hz:=size_wti is;have ho:=Vl.size_wt o;refine⟨⟨is,o⟩,⟨v0,vk,vc,ds,?_,h2,h3,ha.ov⟩,⟨?_,fun i hi=>?_,?_⟩,?_⟩
 ·rw[dcV,dcC];show Value.agg cs=.agg (v0::obC o vk vc).toArray;rw[←he,←hcs]
 ·show is.length≤_;omega
 ·have:=hw i hi;omega
 ·show o.wt≤_;omega
 ·show Vl.size o+(is.map fun i=>Vl.size i.obj).sum≤_;omega
end
theorem Lb.Sm.mono {B C:Nat}{d:Dc}(h:Lb.Sm B d)(hBC:B≤C):Lb.Sm C d:=⟨Nat.le_trans h.len hBC,fun i hi=>Nat.le_trans (h.items i hi) hBC,Nat.le_trans h.trailer hBC⟩
end
section
open Eng Go.RowKit Go.ChangeShapes Go.WideShapes Go.ChangeAt
set_option maxRecDepth 100000
def layReps (w:World)(g:Nat):World:=
 { w with heap:=(w.heap.modify g fun
  |.cells _ t frozen=>.cells #[.map (some w.heap.size)] t frozen
  |o=>o).push (.map #[⟨.int .i64 16,.agg #[.int .i64 3,.int .i64 2],0⟩,⟨.int .i64 17,.agg #[.int .i64 3,.int .i64 3],1⟩,⟨.int .i64 18,.agg #[.int .i64 11,.int .i64 7],2⟩] 3) }
section
variable {H:Type}{enc:TypeId×Value→H}{W:World}{sp:Nat→Bool}{held:Bool}
end
theorem pagesEach_row (d:Dc)(dv:Value)(w:World)(hdv:DV (InW w) w dv d)(hsm:Lb.Sm 1048576 d)(hsz:Dk.size d≤1000000000):Ret prog 5 #[dv] w (fun v w'=>v=.bool true∧Below w.heap.size w w'):=
 RetM.told (pagesEach_ret d dv (Mem.all w) w (hsm.ok (by omega)) (by omega) (Mem.all_has w) hdv)
end
end Go.Proofs.YtoobidofdpdkbaaGreatDoor
